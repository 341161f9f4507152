/-
  bets: the reference's corners; whether bets are sound.
  Printed by gen.py: the code of some functions, without what no step looks at; held against the program's own by the kernel.
  bets: law Sound.
-/
import Derived.Test.YtcmindinomacbaaPk11
import Derived.Test.YtcmindinomacbaaPk3
import Derived.Test.YtcmindinomacbaaProg
import Derived.KernelRfl
import Derived.Shelf.Abstract
import Derived.Test.YtcmindinomacbaaPk10
set_option linter.all false
namespace Go.Proofs.Try.Am
open Go.Am Bq
set_option maxRecDepth 100000
set_option maxHeartbeats 4000000

theorem s103_callW [Tabs Try.prog] {args : List Value} {h : Zh} {Q : Value → Zh → Prop} (hsz : args.length ≤ 22) (hk : AWS Try.prog 22 s103 (Zs Try.prog [.tmp 4] Q) (Zp 0 args) h) : ACall Try.prog 103 args h Q :=
  Ym Try.func103 rfl (enters_of Try.func103 (by kernel_rfl) rfl) rfl rfl (by decide) s103_strip s103_ok hsz hk
theorem worldsOf_call [Tabs prog] {h : Zh} {n s : Nat} (hn : n ≤ 62) (hs : s < 9223372036854775808) : ACall prog 103 [Zc (n : Nat), Zc (s : Nat)] h fun r h' => IntSl h' r (Vf (Yn n s)) ∧ Ext (fun _ => False) h h' := by
  refine s103_callW (by simp) ?_
  simp only [s103]
  refine Ze fun N1 hN1 => ?_
  simp (maxSteps := 2000000) only [↓Za, ↓Zb, ↓Zd, vup, cond_false, aop, Zf, Zp, ev, sput, Zg, Nat.reduceBEq, Nat.reduceAdd]
  refine hN1 [(0, Zc (n : Nat)), (1, Zc (s : Nat)), (4, .slice none 0 0)] _ _ ?_ (by simp (maxSteps := 2000000) only [vup, cond_true, cond_false, Nat.reduceBEq])
  clear hN1
  try clear N1
  refine Ze fun N2 hN2 => ?_
  simp (maxSteps := 2000000) only [↓Za, ↓Zb, ↓Zd, vup, cond_false, aop, Zf, ev, sput, Zg, Nat.reduceBEq]
  refine hN2 [(0, Zc (n : Nat)), (1, Zc (s : Nat)), (4, .slice none 0 0), (5, .slice none 0 0)] _ _ ?_ (by simp (maxSteps := 2000000) only [vup, cond_true, cond_false, Nat.reduceBEq])
  clear hN2
  try clear N2
  refine Zk fun X hX => ?_
  refine Ze fun N3 hN3 => ?_
  simp (maxSteps := 2000000) only [↓Za, ↓Zb, ↓Zd, vup, cond_true, cond_false, aop, Zf, ev, sput, Zg, Nat.reduceBEq]
  refine hN3 [(0, Zc (n : Nat)), (1, Zc (s : Nat)), (4, .slice none 0 0), (5, .slice none 0 0), (7, Zc (n : Nat)), (8, .int .i64 0)] _ _ ?_ (by simp (maxSteps := 2000000) only [vup, cond_true, cond_false, Nat.reduceBEq])
  clear hN3
  try clear N3
  refine Zl ?_
  refine Zn fun Qa hQa => ?_
  refine Yj (γ := Nat × Value × Zh) (fun g => g.1 ≤ n ∧ OwnSl 3 g.2.2 g.2.1 (Vf (Ye s g.1)) ∧ Ext (fun _ => False) h g.2.2 ∧ (∀ b, Yh g.2.1 = some b → h.length ≤ b))
    (fun g => ([(0, Zc (n : Nat)), (1, Zc (s : Nat)), (4, .slice none 0 0), (5, g.2.1), (7, Zc (n : Nat)), (8, Zc (g.1 : Nat))], g.2.2)) (fun g => n - g.1) (0, .slice none 0 0, h) ⟨Nat.zero_le _, .inl ⟨rfl, rfl⟩, Ext.refl _ _, fun b hb => by cases hb⟩ (by simp (maxSteps := 2000000) only [vup, cond_true, cond_false, Nat.reduceBEq, Int.natCast_zero]) rfl ?_
  rintro ⟨k, wv, G⟩ ⟨hk, how, hEG, hbw⟩
  simp only at hk how hEG hbw
  refine Zn fun Qb hQb => ?_
  simp only [l103_0]
  by_cases hkin : (k : Int) < n
  · have hk' : k < n := by omega
    have ht := testV (y := k) hs
    have hnx := Xz s k
    refine Ze fun N4 hN4 => ?_
    simp (maxSteps := 2000000) only [↓Za, ↓Zb, ↓Zd, vup, cond_true, cond_false, aop, Zf, ev, sput, Zg, Yb, Yd, Nat.reduceBEq, hkin]
    refine hN4 [(0, Zc (n : Nat)), (1, Zc (s : Nat)), (4, .slice none 0 0), (5, wv), (7, Zc (n : Nat)), (8, Zc (k : Nat)), (9, .bool true)] _ _ ?_ (by simp (maxSteps := 2000000) only [vup, cond_true, cond_false, Nat.reduceBEq])
    clear hN4
    try clear N4
    refine Ze fun N5 hN5 => ?_
    simp (maxSteps := 2000000) only [↓Zo, ↓vdn, vup, cond_true, cond_false, Zf, ev, Nat.reduceBEq]
    refine hN5 [(0, Zc (n : Nat)), (1, Zc (s : Nat)), (4, .slice none 0 0), (5, wv), (7, Zc (n : Nat)), (8, Zc (k : Nat))] _ _ ?_ (by simp (maxSteps := 2000000) only [vup, cond_true, cond_false, Nat.reduceBEq])
    clear hN5
    try clear N5
    refine Zk fun B hB => ?_
    refine Zl ?_
    refine Ze fun N6 hN6 => ?_
    simp (maxSteps := 2000000) only [↓Za, ↓Zb, ↓Zd, vup, cond_true, cond_false, aop, Zf, ev, sput, Zg, Nat.reduceBEq]
    refine hN6 [(0, Zc (n : Nat)), (1, Zc (s : Nat)), (4, .slice none 0 0), (5, wv), (6, Zc (k : Nat)), (7, Zc (n : Nat)), (8, Zc (k : Nat))] _ _ ?_ (by simp (maxSteps := 2000000) only [vup, cond_true, cond_false, Nat.reduceBEq])
    clear hN6
    try clear N6
    refine Ze fun N7 hN7 => ?_
    simp (maxSteps := 2000000) only [↓Za, ↓Zb, ↓Zd, vup, cond_true, cond_false, aop, Zf, ev, sput, Zg, Yb, Yd, Nat.reduceBEq, ht, beq1, Int.natCast_nonneg]
    refine hN7 [(0, Zc (n : Nat)), (1, Zc (s : Nat)), (4, .slice none 0 0), (5, wv), (6, Zc (k : Nat)), (7, Zc (n : Nat)), (8, Zc (k : Nat)), (15, .bool (s.testBit k))] _ _ ?_ (by simp (maxSteps := 2000000) only [vup, cond_true, cond_false, Nat.reduceBEq])
    clear hN7
    try clear N7
    cases hbit : s.testBit k with
    | false =>
      rw [hbit, if_neg (by decide), List.append_nil] at hnx
      refine Yu rfl ?_
      refine Zi ?_
      simp (maxSteps := 2000000) only [↓Zo, Zf, Zm]
      refine hB [(0, Zc (n : Nat)), (1, Zc (s : Nat)), (4, .slice none 0 0), (5, wv), (7, Zc (n : Nat)), (8, Zc (k : Nat))] _ _ ?_ (by simp (maxSteps := 2000000) only [vup, cond_true, cond_false, Nat.reduceBEq])
      clear hB
      try clear B
      refine Zi ?_
      simp (maxSteps := 2000000) only [↓Za, ↓Zb, ↓Zd, vup, cond_true, cond_false, aop, ev, sput, Zg, Yb, Yd, Nat.reduceBEq, add1 (show k < 9223372036854775807 by omega)]
      exact hQb _ _ _ ⟨(k + 1, wv, G), ⟨hk', by simp only; rw [hnx]; exact how, hEG, hbw⟩, by simp only; omega, by simp (maxSteps := 2000000) only [vup, cond_true, cond_false, Nat.reduceBEq], rfl⟩
    | true =>
      rw [hbit, if_pos rfl] at hnx
      refine Xj rfl ?_
      refine Zi ?_
      simp (maxSteps := 2000000) only [↓Za, ↓Zb, ↓Zd, vup, List.map_cons, List.map_nil, cond_true, cond_false, aop, Zf, Zm, ev, sput, Zg, Zj, Nat.reduceBEq, litI1]
      have hwl := Wz s k
      refine OwnSl.append (x := (k : Int)) (how.ext (S := fun _ => False) (Ext.app _ _ _) (fun _ _ => id)) app_38_38 (by rw [castI_len]; omega) (Zw _ _) ?_
      intro wv' G' ho' hE' hb'
      rw [← castI_snoc, ← hnx] at ho'
      obtain ⟨hEn, hbn⟩ := oExt (H' := G) hEG hbw _ hE' hb'
      refine hB [(0, Zc (n : Nat)), (1, Zc (s : Nat)), (4, .slice none 0 0), (5, wv'), (7, Zc (n : Nat)), (8, Zc (k : Nat))] _ _ ?_ (by simp (maxSteps := 2000000) only [vup, cond_true, cond_false, Nat.reduceBEq])
      clear hB
      try clear B
      refine Zi ?_
      simp (maxSteps := 2000000) only [↓Za, ↓Zb, ↓Zd, vup, cond_true, cond_false, aop, ev, sput, Zg, Yb, Yd, Nat.reduceBEq, add1 (show k < 9223372036854775807 by omega)]
      exact hQb _ _ _ ⟨(k + 1, wv', G'), ⟨hk', ho', hEn, hbn⟩, by simp only; omega, by simp (maxSteps := 2000000) only [vup, cond_true, cond_false, Nat.reduceBEq], rfl⟩
  have hkn := Vw hkin hk
  subst hkn
  refine Ze fun N8 hN8 => ?_
  simp (maxSteps := 2000000) only [↓Za, ↓Zb, ↓Zd, vup, cond_true, cond_false, aop, Zf, ev, sput, Zg, Yb, Yd, Nat.reduceBEq, hkin]
  refine hN8 [(0, Zc (n : Nat)), (1, Zc (s : Nat)), (4, .slice none 0 0), (5, wv), (7, Zc (n : Nat)), (8, Zc (n : Nat)), (9, .bool false)] _ _ ?_ (by simp (maxSteps := 2000000) only [vup, cond_true, cond_false, Nat.reduceBEq])
  clear hN8
  try clear N8
  refine Ze fun N9 hN9 => ?_
  simp (maxSteps := 2000000) only [↓Yo, ↓vdn, vup, cond_true, cond_false, Zf, ev, Nat.reduceBEq]
  refine hQb _ _ _ (hQa _ _ _ ?_)
  simp (maxSteps := 2000000) only [Zf, Zm, Zs, if_true]
  refine hX [(0, Zc (n : Nat)), (1, Zc (s : Nat)), (4, .slice none 0 0), (5, wv)] _ _ ?_ (by simp (maxSteps := 2000000) only [vup, cond_true, cond_false, Nat.reduceBEq])
  clear hX
  try clear X
  refine Zi ?_
  simp (maxSteps := 2000000) only [↓Za, ↓Zr, ↓Zv, ↓Zb, ↓Zd, vup, cond_true, cond_false, aop, Zf, ev, sput, Zg, Nat.reduceBEq, Zs, Xw, tup]
  exact ⟨how.int, hEG⟩

def CornSlR (h : Zh) (v : Value) (cs : List (List Rat)) : Prop := ∃ ws, OwnV 47 h v ws ∧ Each (BelAt h) ws cs
theorem CornSlR.ext {h h' : Zh} {v : Value} {cs : List (List Rat)} (c : CornSlR h v cs) (hE : Ext (fun _ => False) h h') : CornSlR h' v cs := by
  obtain ⟨ws, h1, h2⟩ := c
  exact ⟨ws, h1.ext hE, h2.imp fun w b ⟨bl, g1, g2⟩ => ⟨bl, g1, (hE.2 _ (Xa g2) id).trans g2⟩⟩

theorem s65_callW [Tabs Try.prog] {args : List Value} {h : Zh} {Q : Value → Zh → Prop} (hsz : args.length ≤ 36) (hk : AWS Try.prog 36 s65 (Zs Try.prog [.tmp 4] Q) (Zp 0 args) h) : ACall Try.prog 65 args h Q :=
  Ym Try.func65 rfl (enters_of Try.func65 (by kernel_rfl) rfl) rfl rfl (by decide) s65_strip s65_ok hsz hk
theorem rcorners_call [Tabs prog] {h : Zh} {n : Nat} {v : Value} {l : List (Int × Int)} (hv : PairSl h v l) (hval : Xf n l = true) :
    ACall prog 65 [Zc (n : Nat), v] h fun r h' => Ext (fun _ => False) h h' ∧ CornSlR h' r (Wu n l) := by
  obtain ⟨hn2, hn5, hl1, hl6, hok⟩ := Vb hval
  have hpn : (2 : Nat) ^ n ≤ 2 ^ 5 := Nat.pow_le_pow_right (by decide) hn5
  have hp32 : (2 : Nat) ^ n ≤ 32 := hpn
  have hpp := Nat.two_pow_pos n
  have hsh : shlV .i64 1 (n : Int) = ((2 ^ n : Nat) : Int) := by rw [shl1 (by omega), pow_cast]
  refine s65_callW (by simp) ?_
  simp only [s65]
  refine Ze fun N10 hN10 => ?_
  simp (maxSteps := 2000000) only [↓Za, ↓Zb, ↓Zd, vup, cond_false, aop, Zf, Zp, ev, sput, Zg, Nat.reduceBEq, Nat.reduceAdd]
  refine hN10 [(0, Zc (n : Nat)), (1, v), (4, .slice none 0 0)] _ _ ?_ (by simp (maxSteps := 2000000) only [vup, cond_true, cond_false, Nat.reduceBEq])
  clear hN10
  try clear N10
  refine Ze fun N11 hN11 => ?_
  simp (maxSteps := 2000000) only [↓Za, ↓Zb, ↓Zd, vup, cond_false, aop, Zf, ev, sput, Zg, Nat.reduceBEq]
  refine hN11 [(0, Zc (n : Nat)), (1, v), (4, .slice none 0 0), (5, .slice none 0 0)] _ _ ?_ (by simp (maxSteps := 2000000) only [vup, cond_true, cond_false, Nat.reduceBEq])
  clear hN11
  try clear N11
  refine Zk fun Z hZ => ?_
  refine Ze fun N12 hN12 => ?_
  simp (maxSteps := 2000000) only [↓Za, ↓Zb, ↓Zd, vup, cond_false, aop, Zf, ev, sput, Zg, Nat.reduceBEq]
  refine hN12 [(0, Zc (n : Nat)), (1, v), (4, .slice none 0 0), (5, .slice none 0 0), (6, .int .i64 1)] _ _ ?_ (by simp (maxSteps := 2000000) only [vup, cond_true, cond_false, Nat.reduceBEq])
  clear hN12
  try clear N12
  refine Zl ?_
  refine Zn fun Q hQ => ?_
  refine Yj (γ := Nat × Value × Zh) (fun g => 1 ≤ g.1 ∧ g.1 ≤ 2 ^ n ∧ CornSlR g.2.2 g.2.1 (Xq n l (g.1 - 1)) ∧ Ext (fun _ => False) h g.2.2 ∧ ∀ b, Yh g.2.1 = some b → h.length ≤ b)
    (fun g => ([(0, Zc (n : Nat)), (1, v), (4, .slice none 0 0), (5, g.2.1), (6, Zc (g.1 : Nat))], g.2.2)) (fun g => 2 ^ n - g.1) (1, .slice none 0 0, h) ⟨Nat.le_refl _, hpp, ⟨[], .inl ⟨rfl, rfl⟩, trivial⟩, Ext.refl _ _, fun b hb => by cases hb⟩ (by simp (maxSteps := 2000000) only [vup, cond_true, cond_false, Nat.reduceBEq, Int.natCast_one]) rfl ?_
  rintro ⟨s, out, hp⟩ ⟨hs1, hs, hcs, hEp, hbo⟩
  simp only at hs1 hs hcs hEp hbo
  refine Zn fun Q2 hQ2 => ?_
  simp only [l65_0]
  have hvp := hv.ext hEp
  by_cases hin : (s : Int) < ((2 ^ n : Nat) : Int)
  · have hs' : s < 2 ^ n := by omega
    refine Zk fun X hX => ?_
    refine Ze fun N13 hN13 => ?_
    simp (maxSteps := 2000000) only [↓Za, ↓Zb, ↓Zd, vup, cond_true, cond_false, aop, Zf, ev, sput, Zg, Yb, Yd, Nat.reduceBEq, Int.natCast_nonneg, hsh, hin]
    refine hN13 [(0, Zc (n : Nat)), (1, v), (4, .slice none 0 0), (5, out), (6, Zc (s : Nat)), (12, .bool true)] _ _ ?_ (by simp (maxSteps := 2000000) only [vup, cond_true, cond_false, Nat.reduceBEq])
    clear hN13
    try clear N13
    refine Xj rfl ?_
    refine Zi ?_
    simp (maxSteps := 2000000) only [↓Zo, Zf]
    refine hX [(0, Zc (n : Nat)), (1, v), (4, .slice none 0 0), (5, out), (6, Zc (s : Nat))] _ _ ?_ (by simp (maxSteps := 2000000) only [vup, cond_true, cond_false, Nat.reduceBEq])
    clear hX
    try clear X
    refine Zk fun Y hY => ?_
    refine Zl ?_
    have hcsucc : Xq n l s = Xq n l (s - 1) ++ (Wg n l s).toList := by
      obtain ⟨s', rfl⟩ : ∃ s', s = s' + 1 := ⟨s - 1, by omega⟩
      rw [Xq]; simp
    have goOn : ∀ e out' G2, CornSlR G2 out' (Xq n l s) → Ext (fun _ => False) h G2 → (∀ b, Yh out' = some b → h.length ≤ b) → ELe e [(0, Zc (n : Nat)), (1, v), (4, .slice none 0 0), (5, out'), (6, Zc (s : Nat))] → Y e G2 := by
      intro e out' G2 c1 c2 c3 he
      refine hY _ _ _ ?_ he
      refine Zi ?_
      have ea : addV .i64 (s : Int) 1 = ((s + 1 : Nat) : Int) := add1 (by omega)
      simp (maxSteps := 2000000) only [↓Za, ↓Zb, ↓Zd, vup, cond_true, cond_false, aop, ev, sput, Zg, Yb, Yd, Nat.reduceBEq, ea]
      exact hQ2 _ _ _ ⟨(s + 1, out', G2), ⟨by simp only; omega, by simp only; omega, by simpa using c1, c2, c3⟩, by simp only; omega, by simp (maxSteps := 2000000) only [vup, cond_true, cond_false, Nat.reduceBEq], rfl⟩
    refine Zk fun D hD => ?_
    have al : addV .i64 ((l.length : Nat) : Int) 1 = ((l.length + 1 : Nat) : Int) := add1 (by omega)
    refine Ze fun N14 hN14 => ?_
    simp (maxSteps := 2000000) only [↓Za, ↓Zb, ↓Zd, vup, List.map_cons, List.map_nil, cond_true, cond_false, aop, Zf, ev, sput, Zg, Yb, Yd, Zj, Nat.reduceBEq, tyf, Yr, List.nil_append, List.append_nil]
    refine (worldsOf_call (n := n) (s := s) (by omega) (by omega)).mono ?_
    rintro wv G ⟨hw, hEG⟩
    have hcl : (Vf (Yn n s)).length = (Yn n s).length := castI_len _
    have hvG := hvp.ext hEG
    by_cases hwide : (Yn n s).length > l.length + 1
    · have hgt : ((((Yn n s).length : Nat) : Int) > ((l.length + 1 : Nat) : Int)) := by omega
      simp (maxSteps := 2000000) only [vup, hw.len, hcl, hvG.len, al, hgt]
      refine hN14 [(0, Zc (n : Nat)), (1, v), (4, .slice none 0 0), (5, out), (6, Zc (s : Nat)), (22, .bool true)] _ _ ?_ (by simp (maxSteps := 2000000) only [vup, cond_true, cond_false, Nat.reduceBEq])
      clear hN14
      try clear N14
      refine Xj rfl ?_
      refine Zi ?_
      simp (maxSteps := 2000000) only [↓Yo, Zf, Zm]
      exact goOn _ out G (by rw [hcsucc, cornersTo_wide hwide]; simpa using hcs.ext hEG) (hEp.trans hEG) hbo (by simp (maxSteps := 2000000) only [vup, cond_true, cond_false, Nat.reduceBEq])
    have hgt : ¬ ((((Yn n s).length : Nat) : Int) > ((l.length + 1 : Nat) : Int)) := by omega
    simp (maxSteps := 2000000) only [vup, hw.len, hcl, hvG.len, al, hgt]
    refine hN14 [(0, Zc (n : Nat)), (1, v), (4, .slice none 0 0), (5, out), (6, Zc (s : Nat)), (22, .bool false)] _ _ ?_ (by simp (maxSteps := 2000000) only [vup, cond_true, cond_false, Nat.reduceBEq])
    clear hN14
    try clear N14
    refine Yu rfl ?_
    refine Zi ?_
    simp (maxSteps := 2000000) only [↓Zo, Zf]
    refine hD [(0, Zc (n : Nat)), (1, v), (4, .slice none 0 0), (5, out), (6, Zc (s : Nat))] _ _ ?_ (by simp (maxSteps := 2000000) only [vup, cond_true, cond_false, Nat.reduceBEq])
    clear hD
    try clear D
    refine Ze fun N15 hN15 => ?_
    simp (maxSteps := 2000000) only [↓Za, ↓Zb, ↓Zd, vup, List.map_cons, List.map_nil, cond_true, cond_false, aop, Zf, ev, sput, Zg, Nat.reduceBEq, Yr, List.nil_append, List.append_nil]
    refine (rcorner_call hvG hval hs1 hs').mono ?_
    rintro r G' ⟨hEr, x, ok, rfl, hres⟩
    simp (maxSteps := 2000000) only [extr_20, extr_21]
    refine hN15 [(0, Zc (n : Nat)), (1, v), (4, .slice none 0 0), (5, out), (6, Zc (s : Nat)), (7, x), (8, .bool ok)] _ _ ?_ (by simp (maxSteps := 2000000) only [vup, cond_true, cond_false, Nat.reduceBEq])
    clear hN15
    try clear N15
    have hE2 := hEp.trans (hEG.trans hEr)
    have hcs2 := hcs.ext (hEG.trans hEr)
    refine Ze fun N16 hN16 => ?_
    simp (maxSteps := 2000000) only [↓Za, ↓Zb, ↓Zd, vup, cond_true, cond_false, aop, Zf, ev, sput, Zg, Nat.reduceBEq]
    refine hN16 [(0, Zc (n : Nat)), (1, v), (4, .slice none 0 0), (5, out), (6, Zc (s : Nat)), (7, x), (8, .bool ok), (30, .bool ok)] _ _ ?_ (by simp (maxSteps := 2000000) only [vup, cond_true, cond_false, Nat.reduceBEq])
    clear hN16
    try clear N16
    cases hc : Wg n l s with
    | none =>
      rw [hc] at hres hcsucc
      obtain ⟨rfl, rfl⟩ := hres
      refine Yu rfl ?_
      refine Zi ?_
      simp (maxSteps := 2000000) only [↓Zo, Zf, Zm]
      exact goOn _ out G' (by rw [hcsucc]; simpa using hcs2) hE2 hbo (by simp (maxSteps := 2000000) only [vup, cond_true, cond_false, Nat.reduceBEq])
    | some b =>
      rw [hc] at hres hcsucc
      obtain ⟨rfl, ⟨bl, rfl, hbl⟩, hfr⟩ := hres
      refine Xj rfl ?_
      obtain ⟨us, hou, heach⟩ := hcs2
      have hlen3 := heach.len
      have hcl := cornersTo_len n l (s - 1)
      refine Zi ?_
      simp (maxSteps := 2000000) only [↓Za, ↓Zb, ↓Zd, vup, List.map_cons, List.map_nil, cond_true, cond_false, aop, Zf, Zm, ev, sput, Zg, Zj, Nat.reduceBEq, litV el_94 zero_47 esz_47]
      refine OwnV.app (us := [.slice (some ⟨bl, 0, none⟩) b.length b.length]) (hou.ext (Ext.app _ _ _)) app_94_94 (.inr ⟨G'.length, 0, none, 1, [.slice (some ⟨bl, 0, none⟩) b.length b.length], 47, false, rfl, Nat.le_refl _, by simp [view, Blk.view], rfl⟩) (fun w hw => ?_) (by simp; omega) ?_
      · rcases List.mem_append.1 hw with h1 | h1
        · obtain ⟨b, bl, rfl, _⟩ := heach.mem w h1
          exact ⟨rfl, rfl⟩
        · rw [List.mem_singleton.1 h1]; exact ⟨rfl, rfl⟩
      · intro out' G3 ho3 hE3 hb3
        obtain ⟨hEn, hbn⟩ := oExt (H' := G') hE2 hbo _ hE3 hb3
        have keep : ∀ bl c, G'[bl]? = some (Blk.cells c 26 false) → G3[bl]? = some (Blk.cells c 26 false) := fun bl c hbl => by
          have hlt := Xa hbl
          rw [hE3.2 bl (by rw [List.length_append]; omega) (fun hc => ?_), List.getElem?_append_left hlt, hbl]
          obtain ⟨c', hc'⟩ := hou.blk hc
          rw [hbl] at hc'
          exact absurd (Blk.cells.inj (Option.some.inj hc')).2.1 (by decide)
        refine goOn _ out' G3 ⟨us ++ [.slice (some ⟨bl, 0, none⟩) b.length b.length], ho3, ?_⟩ hEn hbn (by simp (maxSteps := 2000000) only [vup, cond_true, cond_false, Nat.reduceBEq])
        rw [hcsucc]
        exact Each.app (heach.imp fun w b ⟨bl, q1, q2⟩ => ⟨bl, q1, keep bl _ q2⟩) ⟨⟨bl, rfl, keep _ _ hbl⟩, trivial⟩
  · have hss := Vw hin hs
    subst hss
    refine Zk fun X hX => ?_
    refine Ze fun N17 hN17 => ?_
    simp (maxSteps := 2000000) only [↓Za, ↓Zb, ↓Zd, vup, cond_true, cond_false, aop, Zf, ev, sput, Zg, Yb, Yd, Nat.reduceBEq, Int.natCast_nonneg, hsh, hin]
    refine hN17 [(0, Zc (n : Nat)), (1, v), (4, .slice none 0 0), (5, out), (6, Zc (2 ^ n : Nat)), (12, .bool false)] _ _ ?_ (by simp (maxSteps := 2000000) only [vup, cond_true, cond_false, Nat.reduceBEq])
    clear hN17
    try clear N17
    refine Yu rfl ?_
    refine Zi ?_
    simp (maxSteps := 2000000) only [↓Yo, Zf]
    refine hQ2 _ _ _ (hQ _ _ _ ?_)
    simp (maxSteps := 2000000) only [Zf, Zm, Zs, if_true]
    refine hZ [(0, Zc (n : Nat)), (1, v), (4, .slice none 0 0), (5, out), (12, .bool false)] _ _ ?_ (by simp (maxSteps := 2000000) only [vup, cond_true, cond_false, Nat.reduceBEq])
    clear hZ
    try clear Z
    refine Zi ?_
    simp (maxSteps := 2000000) only [↓Za, ↓Zr, ↓Zv, ↓Zb, ↓Zd, vup, cond_true, cond_false, aop, Zf, ev, sput, Zg, Nat.reduceBEq, Zs, Xw, tup]
    exact ⟨hEp, hcs⟩

theorem s27_callW [Tabs Try.prog] {args : List Value} {h : Zh} {Q : Value → Zh → Prop} (hsz : args.length ≤ 10) (hk : AWS Try.prog 10 s27 (Zs Try.prog [.tmp 4] Q) (Zp 0 args) h) : ACall Try.prog 27 args h Q :=
  Ym Try.func27 rfl (enters_of Try.func27 (by kernel_rfl) rfl) rfl rfl (by decide) s27_strip s27_ok hsz hk
theorem rsound_call [Tabs prog] {h : Zh} {n : Nat} {v : Value} {l : List (Int × Int)} (hv : PairSl h v l) (hval : Xf n l = true) : Xc prog 27 [Zc (n : Nat), v] h (.bool (!(Wu n l).isEmpty)) := by
  refine ACall.forget (Low.bool _) ?_
  refine s27_callW (by simp) ?_
  refine Zi ?_
  simp (maxSteps := 2000000) only [s27, ↓Za, ↓Zr, ↓Zv, ↓Zb, ↓Zd, vup, List.map_cons, List.map_nil, cond_true, cond_false, aop, Zf, Zp, ev, sput, Zg, Yb, Yd, Zj, Nat.reduceBEq, Nat.reduceAdd, Zs, Xw, tup, tyf, Yr, List.nil_append, List.append_nil]
  refine (rcorners_call hv hval).mono ?_
  rintro r h1 ⟨hE, ws, ho, he⟩
  have hl := he.len
  have e : decide (((ws.length : Nat) : Int) > 0) = !(Wu n l).isEmpty := by
    rw [hl]
    cases Wu n l <;> simp
  simp (maxSteps := 2000000) only [vup, ho.val.len, e]
  exact hE
end Go.Proofs.Try.Am

namespace Go.Proofs.Try.Am
open Go.Am
set_option maxRecDepth 100000
/-! 3: planchet planchetlaw09.BetsMore -/
@[reducible] def q3_0 : SCode := .region [⟨some 6, .box 24 (.tmp 2), none⟩,
    ⟨some 8, .assign (.const (.bool false)), none⟩]
@[reducible] def q3_1 : SCode := .region [⟨some 17, .move (.tmp 0), none⟩,
    ⟨some 18, .move (.tmp 1), none⟩,
    ⟨some 19, .call { callee := .value (.func 18), args := #[.tmp 18], argTypes := #[22] }, none⟩,
    ⟨some 20, .move (.tmp 3), none⟩,
    ⟨some 21, .call { callee := .value (.func 17), args := #[.tmp 17, .tmp 19, .tmp 20], argTypes := #[3, 30, 3] }, none⟩,
    ⟨some 16, .move (.tmp 21), none⟩,
    ⟨some 22, .extract (.tmp 16) 0, none⟩,
    ⟨some 23, .extract (.tmp 16) 1, none⟩,
    ⟨some 24, .extract (.tmp 16) 2, none⟩,
    ⟨some 9, .alloc 26, none⟩,
    ⟨some 10, .alloc 26, none⟩,
    ⟨none, .store 26 (.tmp 9) (.tmp 22), none⟩,
    ⟨none, .store 26 (.tmp 10) (.tmp 23), none⟩,
    ⟨some 11, .assign (.tmp 24), none⟩]
def q3_2 : SCode := .draw [⟨some 25, .move (.tmp 1), none⟩,
    ⟨some 26, .call { callee := .value (.func 19), args := #[.tmp 25], argTypes := #[22] }, none⟩,
    ⟨some 27, .load 24 (.tmp 6), none⟩,
    ⟨some 28, .buildSlice 22 1 #[(0, .tmp 27)], none⟩,
    ⟨some 29, .call { callee := .builtin .append, args := #[.tmp 26, .tmp 28], argTypes := #[22, 22] }, none⟩,
    ⟨some 12, .assign (.tmp 29), none⟩]
   [[], [0], [], [2], [1, 3, 1], [4, 4, 0, 1, 2, 3, 4]]
@[reducible] def q3_3 : SCode := .region [⟨some 31, .move (.tmp 0), none⟩,
    ⟨some 32, .move (.tmp 12), none⟩,
    ⟨some 33, .call { callee := .value (.func 18), args := #[.tmp 32], argTypes := #[22] }, none⟩,
    ⟨some 34, .move (.tmp 3), none⟩,
    ⟨some 35, .call { callee := .value (.func 17), args := #[.tmp 31, .tmp 33, .tmp 34], argTypes := #[3, 30, 3] }, none⟩,
    ⟨some 30, .move (.tmp 35), none⟩,
    ⟨some 36, .extract (.tmp 30) 0, none⟩,
    ⟨some 37, .extract (.tmp 30) 1, none⟩,
    ⟨some 38, .extract (.tmp 30) 2, none⟩,
    ⟨some 13, .alloc 26, none⟩,
    ⟨some 14, .alloc 26, none⟩,
    ⟨none, .store 26 (.tmp 13) (.tmp 36), none⟩,
    ⟨none, .store 26 (.tmp 14) (.tmp 37), none⟩,
    ⟨some 15, .assign (.tmp 38), none⟩]
@[reducible] def q3_4 : SCode := .region [⟨some 39, .move (.tmp 0), none⟩,
    ⟨some 40, .move (.tmp 1), none⟩,
    ⟨some 41, .call { callee := .value (.func 20), args := #[.tmp 39, .tmp 40], argTypes := #[3, 22] }, none⟩,
    ⟨some 42, .unOp .not 4 (.tmp 41), none⟩]
@[reducible] def q3_5 : SCode := .region [⟨some 43, .move (.tmp 11), none⟩,
    ⟨some 44, .binOp .eql 27 (.tmp 43) (.const (.int .i64 2)) 27, none⟩,
    ⟨some 45, .move (.tmp 44), none⟩,
    ⟨some 46, .call { callee := .value (.func 21), args := #[], argTypes := #[] }, some (45, true)⟩,
    ⟨some 47, .pick (.tmp 45) (.tmp 46) (.const (.bool false)), none⟩,
    ⟨some 8, .assign (.tmp 47), none⟩]
@[reducible] def q3_6 : SCode := .region [⟨some 48, .move (.tmp 11), none⟩,
    ⟨some 49, .binOp .neq 27 (.tmp 48) (.const (.int .i64 0)) 27, none⟩,
    ⟨some 50, .move (.tmp 49), none⟩,
    ⟨some 51, .move (.tmp 15), some (50, false)⟩,
    ⟨some 52, .binOp .neq 27 (.tmp 51) (.const (.int .i64 0)) 27, some (50, false)⟩,
    ⟨some 53, .pick (.tmp 50) (.const (.bool true)) (.tmp 52), none⟩,
    ⟨some 54, .move (.tmp 53), none⟩,
    ⟨some 55, .move (.tmp 0), some (54, false)⟩,
    ⟨some 56, .move (.tmp 12), some (54, false)⟩,
    ⟨some 57, .call { callee := .value (.func 20), args := #[.tmp 55, .tmp 56], argTypes := #[3, 22] }, some (54, false)⟩,
    ⟨some 58, .unOp .not 4 (.tmp 57), some (54, false)⟩,
    ⟨some 59, .pick (.tmp 54) (.const (.bool true)) (.tmp 58), none⟩]
@[reducible] def q3_7 : SCode := .region [⟨some 60, .move (.tmp 11), none⟩,
    ⟨some 61, .binOp .eql 27 (.tmp 60) (.const (.int .i64 0)) 27, none⟩,
    ⟨some 62, .move (.tmp 61), none⟩,
    ⟨some 63, .move (.tmp 11), some (62, false)⟩,
    ⟨some 64, .binOp .eql 27 (.tmp 63) (.const (.int .i64 2)) 27, some (62, false)⟩,
    ⟨some 65, .pick (.tmp 62) (.const (.bool true)) (.tmp 64), none⟩,
    ⟨some 66, .move (.tmp 65), none⟩,
    ⟨some 67, .move (.tmp 11), some (66, false)⟩,
    ⟨some 68, .binOp .eql 27 (.tmp 67) (.const (.int .i64 5)) 27, some (66, false)⟩,
    ⟨some 69, .pick (.tmp 66) (.const (.bool true)) (.tmp 68), none⟩,
    ⟨some 70, .move (.tmp 69), none⟩,
    ⟨some 71, .move (.tmp 15), some (70, true)⟩,
    ⟨some 72, .binOp .eql 27 (.tmp 71) (.const (.int .i64 2)) 27, some (70, true)⟩,
    ⟨some 73, .move (.tmp 72), some (70, true)⟩,
    ⟨some 74, .move (.tmp 15), some (73, false)⟩,
    ⟨some 75, .binOp .eql 27 (.tmp 74) (.const (.int .i64 5)) 27, some (73, false)⟩,
    ⟨some 76, .pick (.tmp 73) (.const (.bool true)) (.tmp 75), some (70, true)⟩,
    ⟨some 77, .pick (.tmp 70) (.tmp 76) (.const (.bool false)), none⟩,
    ⟨some 78, .move (.tmp 77), none⟩,
    ⟨some 79, .call { callee := .value (.func 21), args := #[], argTypes := #[] }, some (78, true)⟩,
    ⟨some 80, .pick (.tmp 78) (.tmp 79) (.const (.bool false)), none⟩,
    ⟨some 8, .assign (.tmp 80), none⟩]
@[reducible] def q3_8 : SCode := .region [⟨some 81, .load 26 (.tmp 9), none⟩,
    ⟨some 82, .call { callee := .value (.func 22), args := #[.tmp 81], argTypes := #[26] }, none⟩,
    ⟨some 83, .move (.tmp 82), none⟩,
    ⟨some 84, .load 26 (.tmp 10), some (83, true)⟩,
    ⟨some 85, .call { callee := .value (.func 22), args := #[.tmp 84], argTypes := #[26] }, some (83, true)⟩,
    ⟨some 86, .pick (.tmp 83) (.tmp 85) (.const (.bool false)), none⟩,
    ⟨some 87, .move (.tmp 86), none⟩,
    ⟨some 88, .load 26 (.tmp 13), some (87, true)⟩,
    ⟨some 89, .call { callee := .value (.func 22), args := #[.tmp 88], argTypes := #[26] }, some (87, true)⟩,
    ⟨some 90, .pick (.tmp 87) (.tmp 89) (.const (.bool false)), none⟩,
    ⟨some 91, .move (.tmp 90), none⟩,
    ⟨some 92, .load 26 (.tmp 14), some (91, true)⟩,
    ⟨some 93, .call { callee := .value (.func 22), args := #[.tmp 92], argTypes := #[26] }, some (91, true)⟩,
    ⟨some 94, .pick (.tmp 91) (.tmp 93) (.const (.bool false)), none⟩,
    ⟨some 95, .move (.tmp 94), none⟩,
    ⟨some 96, .load 26 (.tmp 13), some (95, true)⟩,
    ⟨some 97, .load 26 (.tmp 9), some (95, true)⟩,
    ⟨some 98, .call { callee := .value (.func 23), args := #[.tmp 96, .tmp 97], argTypes := #[26, 26] }, some (95, true)⟩,
    ⟨some 99, .unOp .not 4 (.tmp 98), some (95, true)⟩,
    ⟨some 100, .pick (.tmp 95) (.tmp 99) (.const (.bool false)), none⟩,
    ⟨some 101, .move (.tmp 100), none⟩,
    ⟨some 102, .load 26 (.tmp 10), some (101, true)⟩,
    ⟨some 103, .load 26 (.tmp 14), some (101, true)⟩,
    ⟨some 104, .call { callee := .value (.func 23), args := #[.tmp 102, .tmp 103], argTypes := #[26, 26] }, some (101, true)⟩,
    ⟨some 105, .unOp .not 4 (.tmp 104), some (101, true)⟩,
    ⟨some 106, .pick (.tmp 101) (.tmp 105) (.const (.bool false)), none⟩,
    ⟨some 107, .move (.tmp 106), none⟩,
    ⟨some 108, .call { callee := .value (.func 21), args := #[], argTypes := #[] }, some (107, true)⟩,
    ⟨some 109, .pick (.tmp 107) (.tmp 108) (.const (.bool false)), none⟩,
    ⟨some 8, .assign (.tmp 109), none⟩]
def s3 : SCode := (.seq q3_0 (.seq q3_1 (.seq q3_2 (.seq q3_3 (.seq (.seq q3_4 (.cond (.tmp 42) (.seq q3_5 .ret) .skip)) (.seq (.seq q3_6 (.cond (.tmp 59) (.seq q3_7 .ret) .skip)) (.seq q3_8 .ret)))))))
/-! 4: planchet planchetlaw09.BetsBounds -/
@[reducible] def q4_0 : SCode := .region [⟨some 6, .assign (.const (.bool false)), none⟩]
@[reducible] def q4_1 : SCode := .region [⟨some 15, .move (.tmp 0), none⟩,
    ⟨some 16, .move (.tmp 1), none⟩,
    ⟨some 17, .call { callee := .value (.func 18), args := #[.tmp 16], argTypes := #[22] }, none⟩,
    ⟨some 18, .move (.tmp 2), none⟩,
    ⟨some 19, .call { callee := .value (.func 17), args := #[.tmp 15, .tmp 17, .tmp 18], argTypes := #[3, 30, 3] }, none⟩,
    ⟨some 14, .move (.tmp 19), none⟩,
    ⟨some 20, .extract (.tmp 14) 0, none⟩,
    ⟨some 21, .extract (.tmp 14) 1, none⟩,
    ⟨some 22, .extract (.tmp 14) 2, none⟩,
    ⟨some 7, .alloc 26, none⟩,
    ⟨some 8, .alloc 26, none⟩,
    ⟨none, .store 26 (.tmp 7) (.tmp 20), none⟩,
    ⟨none, .store 26 (.tmp 8) (.tmp 21), none⟩,
    ⟨some 9, .assign (.tmp 22), none⟩]
@[reducible] def q4_2 : SCode := .region [⟨some 24, .move (.tmp 0), none⟩,
    ⟨some 25, .move (.tmp 1), none⟩,
    ⟨some 26, .call { callee := .value (.func 18), args := #[.tmp 25], argTypes := #[22] }, none⟩,
    ⟨some 27, .move (.tmp 2), none⟩,
    ⟨some 28, .call { callee := .value (.func 24), args := #[.tmp 24, .tmp 26, .tmp 27], argTypes := #[3, 30, 3] }, none⟩,
    ⟨some 23, .move (.tmp 28), none⟩,
    ⟨some 29, .extract (.tmp 23) 0, none⟩,
    ⟨some 30, .extract (.tmp 23) 1, none⟩,
    ⟨some 10, .assign (.tmp 29), none⟩,
    ⟨some 11, .assign (.tmp 30), none⟩]
@[reducible] def q4_3 : SCode := .region [⟨some 31, .move (.tmp 0), none⟩,
    ⟨some 32, .move (.tmp 1), none⟩,
    ⟨some 33, .call { callee := .value (.func 20), args := #[.tmp 31, .tmp 32], argTypes := #[3, 22] }, none⟩,
    ⟨some 34, .unOp .not 4 (.tmp 33), none⟩,
    ⟨some 35, .move (.tmp 34), none⟩,
    ⟨some 36, .move (.tmp 0), some (35, false)⟩,
    ⟨some 37, .move (.tmp 2), some (35, false)⟩,
    ⟨some 38, .call { callee := .value (.func 25), args := #[.tmp 36, .tmp 37], argTypes := #[3, 3] }, some (35, false)⟩,
    ⟨some 39, .unOp .not 4 (.tmp 38), some (35, false)⟩,
    ⟨some 40, .pick (.tmp 35) (.const (.bool true)) (.tmp 39), none⟩]
@[reducible] def q4_4 : SCode := .region [⟨some 41, .load 26 (.tmp 7), none⟩,
    ⟨some 42, .call { callee := .value (.func 26), args := #[.tmp 41], argTypes := #[26] }, none⟩,
    ⟨some 43, .move (.tmp 42), none⟩,
    ⟨some 44, .load 26 (.tmp 8), some (43, true)⟩,
    ⟨some 45, .call { callee := .value (.func 26), args := #[.tmp 44], argTypes := #[26] }, some (43, true)⟩,
    ⟨some 46, .pick (.tmp 43) (.tmp 45) (.const (.bool false)), none⟩,
    ⟨some 47, .move (.tmp 46), none⟩,
    ⟨some 48, .move (.tmp 10), some (47, true)⟩,
    ⟨some 49, .call { callee := .builtin .len, args := #[.tmp 48], argTypes := #[38] }, some (47, true)⟩,
    ⟨some 50, .binOp .eql 3 (.tmp 49) (.const (.int .i64 0)) 3, some (47, true)⟩,
    ⟨some 51, .pick (.tmp 47) (.tmp 50) (.const (.bool false)), none⟩,
    ⟨some 52, .move (.tmp 51), none⟩,
    ⟨some 53, .move (.tmp 9), some (52, true)⟩,
    ⟨some 54, .binOp .eql 27 (.tmp 53) (.const (.int .i64 2)) 27, some (52, true)⟩,
    ⟨some 55, .pick (.tmp 52) (.tmp 54) (.const (.bool false)), none⟩,
    ⟨some 56, .move (.tmp 55), none⟩,
    ⟨some 57, .move (.tmp 11), some (56, true)⟩,
    ⟨some 58, .binOp .eql 27 (.tmp 57) (.const (.int .i64 2)) 27, some (56, true)⟩,
    ⟨some 59, .pick (.tmp 56) (.tmp 58) (.const (.bool false)), none⟩,
    ⟨some 60, .move (.tmp 59), none⟩,
    ⟨some 61, .call { callee := .value (.func 21), args := #[], argTypes := #[] }, some (60, true)⟩,
    ⟨some 62, .pick (.tmp 60) (.tmp 61) (.const (.bool false)), none⟩,
    ⟨some 6, .assign (.tmp 62), none⟩]
@[reducible] def q4_5 : SCode := .region [⟨some 63, .move (.tmp 0), none⟩,
    ⟨some 64, .move (.tmp 1), none⟩,
    ⟨some 65, .call { callee := .value (.func 27), args := #[.tmp 63, .tmp 64], argTypes := #[3, 22] }, none⟩,
    ⟨some 66, .unOp .not 4 (.tmp 65), none⟩]
@[reducible] def q4_6 : SCode := .region [⟨some 67, .load 26 (.tmp 7), none⟩,
    ⟨some 68, .call { callee := .value (.func 26), args := #[.tmp 67], argTypes := #[26] }, none⟩,
    ⟨some 69, .move (.tmp 68), none⟩,
    ⟨some 70, .load 26 (.tmp 8), some (69, true)⟩,
    ⟨some 71, .call { callee := .value (.func 26), args := #[.tmp 70], argTypes := #[26] }, some (69, true)⟩,
    ⟨some 72, .pick (.tmp 69) (.tmp 71) (.const (.bool false)), none⟩,
    ⟨some 73, .move (.tmp 72), none⟩,
    ⟨some 74, .move (.tmp 10), some (73, true)⟩,
    ⟨some 75, .call { callee := .builtin .len, args := #[.tmp 74], argTypes := #[38] }, some (73, true)⟩,
    ⟨some 76, .binOp .eql 3 (.tmp 75) (.const (.int .i64 0)) 3, some (73, true)⟩,
    ⟨some 77, .pick (.tmp 73) (.tmp 76) (.const (.bool false)), none⟩,
    ⟨some 78, .move (.tmp 77), none⟩,
    ⟨some 79, .move (.tmp 9), some (78, true)⟩,
    ⟨some 80, .binOp .eql 27 (.tmp 79) (.const (.int .i64 5)) 27, some (78, true)⟩,
    ⟨some 81, .pick (.tmp 78) (.tmp 80) (.const (.bool false)), none⟩,
    ⟨some 82, .move (.tmp 81), none⟩,
    ⟨some 83, .move (.tmp 11), some (82, true)⟩,
    ⟨some 84, .binOp .eql 27 (.tmp 83) (.const (.int .i64 5)) 27, some (82, true)⟩,
    ⟨some 85, .pick (.tmp 82) (.tmp 84) (.const (.bool false)), none⟩,
    ⟨some 86, .move (.tmp 85), none⟩,
    ⟨some 87, .call { callee := .value (.func 21), args := #[], argTypes := #[] }, some (86, true)⟩,
    ⟨some 88, .pick (.tmp 86) (.tmp 87) (.const (.bool false)), none⟩,
    ⟨some 6, .assign (.tmp 88), none⟩]
@[reducible] def q4_7 : SCode := .region [⟨some 90, .move (.tmp 0), none⟩,
    ⟨some 91, .move (.tmp 1), none⟩,
    ⟨some 92, .move (.tmp 2), none⟩,
    ⟨some 93, .call { callee := .value (.func 28), args := #[.tmp 90, .tmp 91, .tmp 92], argTypes := #[3, 22, 3] }, none⟩,
    ⟨some 89, .move (.tmp 93), none⟩,
    ⟨some 94, .extract (.tmp 89) 0, none⟩,
    ⟨some 95, .extract (.tmp 89) 1, none⟩,
    ⟨some 12, .alloc 26, none⟩,
    ⟨some 13, .alloc 26, none⟩,
    ⟨none, .store 26 (.tmp 12) (.tmp 94), none⟩,
    ⟨none, .store 26 (.tmp 13) (.tmp 95), none⟩]
@[reducible] def q4_8 : SCode := .region [⟨some 96, .load 26 (.tmp 7), none⟩,
    ⟨some 97, .load 26 (.tmp 12), none⟩,
    ⟨some 98, .binOp .eql 26 (.tmp 96) (.tmp 97) 26, none⟩,
    ⟨some 99, .move (.tmp 98), none⟩,
    ⟨some 100, .load 26 (.tmp 8), some (99, true)⟩,
    ⟨some 101, .load 26 (.tmp 13), some (99, true)⟩,
    ⟨some 102, .binOp .eql 26 (.tmp 100) (.tmp 101) 26, some (99, true)⟩,
    ⟨some 103, .pick (.tmp 99) (.tmp 102) (.const (.bool false)), none⟩,
    ⟨some 104, .move (.tmp 103), none⟩,
    ⟨some 105, .move (.tmp 9), some (104, true)⟩,
    ⟨some 106, .binOp .eql 27 (.tmp 105) (.const (.int .i64 0)) 27, some (104, true)⟩,
    ⟨some 107, .pick (.tmp 104) (.tmp 106) (.const (.bool false)), none⟩,
    ⟨some 108, .move (.tmp 107), none⟩,
    ⟨some 109, .move (.tmp 10), some (108, true)⟩,
    ⟨some 110, .move (.tmp 0), some (108, true)⟩,
    ⟨some 111, .move (.tmp 1), some (108, true)⟩,
    ⟨some 112, .move (.tmp 2), some (108, true)⟩,
    ⟨some 113, .call { callee := .value (.func 30), args := #[.tmp 110, .tmp 111, .tmp 112], argTypes := #[3, 22, 3] }, some (108, true)⟩,
    ⟨some 114, .call { callee := .value (.func 29), args := #[.tmp 109, .tmp 113], argTypes := #[38, 38] }, some (108, true)⟩,
    ⟨some 115, .pick (.tmp 108) (.tmp 114) (.const (.bool false)), none⟩,
    ⟨some 116, .move (.tmp 115), none⟩,
    ⟨some 117, .move (.tmp 11), some (116, true)⟩,
    ⟨some 118, .binOp .eql 27 (.tmp 117) (.const (.int .i64 0)) 27, some (116, true)⟩,
    ⟨some 119, .pick (.tmp 116) (.tmp 118) (.const (.bool false)), none⟩,
    ⟨some 120, .move (.tmp 119), none⟩,
    ⟨some 121, .call { callee := .value (.func 21), args := #[], argTypes := #[] }, some (120, true)⟩,
    ⟨some 122, .pick (.tmp 120) (.tmp 121) (.const (.bool false)), none⟩,
    ⟨some 6, .assign (.tmp 122), none⟩]
def s4 : SCode := (.seq q4_0 (.seq q4_1 (.seq q4_2 (.seq (.seq q4_3 (.cond (.tmp 40) (.seq q4_4 .ret) .skip)) (.seq (.seq q4_5 (.cond (.tmp 66) (.seq q4_6 .ret) .skip)) (.seq q4_7 (.seq q4_8 .ret)))))))
/-! 6: planchet planchetlaw09.BetsSound -/
@[reducible] def q6_0 : SCode := .region [⟨some 6, .assign (.const (.bool false)), none⟩]
@[reducible] def q6_1 : SCode := .region [⟨some 12, .move (.tmp 0), none⟩,
    ⟨some 13, .move (.tmp 1), none⟩,
    ⟨some 14, .call { callee := .value (.func 18), args := #[.tmp 13], argTypes := #[22] }, none⟩,
    ⟨some 15, .call { callee := .value (.func 36), args := #[.tmp 12, .tmp 14], argTypes := #[3, 30] }, none⟩,
    ⟨some 11, .move (.tmp 15), none⟩,
    ⟨some 16, .extract (.tmp 11) 0, none⟩,
    ⟨some 17, .extract (.tmp 11) 1, none⟩,
    ⟨some 7, .assign (.tmp 16), none⟩,
    ⟨some 8, .assign (.tmp 17), none⟩]
@[reducible] def q6_2 : SCode := .region [⟨some 19, .move (.tmp 0), none⟩,
    ⟨some 20, .move (.tmp 1), none⟩,
    ⟨some 21, .call { callee := .value (.func 18), args := #[.tmp 20], argTypes := #[22] }, none⟩,
    ⟨some 22, .move (.tmp 2), none⟩,
    ⟨some 23, .call { callee := .value (.func 32), args := #[.tmp 22], argTypes := #[47] }, none⟩,
    ⟨some 24, .call { callee := .value (.func 37), args := #[.tmp 19, .tmp 21, .tmp 23], argTypes := #[3, 30, 47] }, none⟩,
    ⟨some 18, .move (.tmp 24), none⟩,
    ⟨some 25, .extract (.tmp 18) 0, none⟩,
    ⟨some 26, .extract (.tmp 18) 1, none⟩,
    ⟨some 9, .assign (.tmp 25), none⟩,
    ⟨some 10, .assign (.tmp 26), none⟩]
@[reducible] def q6_3 : SCode := .region [⟨some 27, .move (.tmp 0), none⟩,
    ⟨some 28, .move (.tmp 1), none⟩,
    ⟨some 29, .call { callee := .value (.func 20), args := #[.tmp 27, .tmp 28], argTypes := #[3, 22] }, none⟩,
    ⟨some 30, .unOp .not 4 (.tmp 29), none⟩]
@[reducible] def q6_4 : SCode := .region [⟨some 31, .move (.tmp 7), none⟩,
    ⟨some 32, .call { callee := .builtin .len, args := #[.tmp 31], argTypes := #[47] }, none⟩,
    ⟨some 33, .binOp .eql 3 (.tmp 32) (.const (.int .i64 0)) 3, none⟩,
    ⟨some 34, .move (.tmp 33), none⟩,
    ⟨some 35, .move (.tmp 9), some (34, true)⟩,
    ⟨some 36, .unOp .not 4 (.tmp 35), some (34, true)⟩,
    ⟨some 37, .pick (.tmp 34) (.tmp 36) (.const (.bool false)), none⟩,
    ⟨some 38, .move (.tmp 37), none⟩,
    ⟨some 39, .move (.tmp 8), some (38, true)⟩,
    ⟨some 40, .binOp .eql 27 (.tmp 39) (.const (.int .i64 2)) 27, some (38, true)⟩,
    ⟨some 41, .pick (.tmp 38) (.tmp 40) (.const (.bool false)), none⟩,
    ⟨some 42, .move (.tmp 41), none⟩,
    ⟨some 43, .move (.tmp 10), some (42, true)⟩,
    ⟨some 44, .binOp .eql 27 (.tmp 43) (.const (.int .i64 2)) 27, some (42, true)⟩,
    ⟨some 45, .pick (.tmp 42) (.tmp 44) (.const (.bool false)), none⟩,
    ⟨some 46, .move (.tmp 45), none⟩,
    ⟨some 47, .call { callee := .value (.func 21), args := #[], argTypes := #[] }, some (46, true)⟩,
    ⟨some 48, .pick (.tmp 46) (.tmp 47) (.const (.bool false)), none⟩,
    ⟨some 6, .assign (.tmp 48), none⟩]
@[reducible] def q6_5 : SCode := .region [⟨some 49, .move (.tmp 0), none⟩,
    ⟨some 50, .move (.tmp 1), none⟩,
    ⟨some 51, .call { callee := .value (.func 27), args := #[.tmp 49, .tmp 50], argTypes := #[3, 22] }, none⟩]
@[reducible] def q6_6 : SCode := .region [⟨some 52, .move (.tmp 8), none⟩,
    ⟨some 53, .binOp .neq 27 (.tmp 52) (.const (.int .i64 0)) 27, none⟩,
    ⟨some 54, .move (.tmp 53), none⟩,
    ⟨some 55, .move (.tmp 0), some (54, false)⟩,
    ⟨some 56, .move (.tmp 7), some (54, false)⟩,
    ⟨some 57, .call { callee := .value (.func 38), args := #[.tmp 55, .tmp 56], argTypes := #[3, 47] }, some (54, false)⟩,
    ⟨some 58, .unOp .not 4 (.tmp 57), some (54, false)⟩,
    ⟨some 59, .pick (.tmp 54) (.const (.bool true)) (.tmp 58), none⟩,
    ⟨some 60, .move (.tmp 59), none⟩,
    ⟨some 61, .move (.tmp 0), some (60, false)⟩,
    ⟨some 62, .move (.tmp 1), some (60, false)⟩,
    ⟨some 63, .move (.tmp 7), some (60, false)⟩,
    ⟨some 64, .call { callee := .value (.func 39), args := #[.tmp 61, .tmp 62, .tmp 63], argTypes := #[3, 22, 47] }, some (60, false)⟩,
    ⟨some 65, .unOp .not 4 (.tmp 64), some (60, false)⟩,
    ⟨some 66, .pick (.tmp 60) (.const (.bool true)) (.tmp 65), none⟩]
@[reducible] def q6_7 : SCode := .region [⟨some 6, .assign (.const (.bool false)), none⟩]
@[reducible] def q6_8 : SCode := .region [⟨some 67, .move (.tmp 7), none⟩,
    ⟨some 68, .call { callee := .builtin .len, args := #[.tmp 67], argTypes := #[47] }, none⟩,
    ⟨some 69, .binOp .neq 3 (.tmp 68) (.const (.int .i64 0)) 3, none⟩,
    ⟨some 70, .move (.tmp 69), none⟩,
    ⟨some 71, .move (.tmp 8), some (70, false)⟩,
    ⟨some 72, .binOp .neq 27 (.tmp 71) (.const (.int .i64 5)) 27, some (70, false)⟩,
    ⟨some 73, .pick (.tmp 70) (.const (.bool true)) (.tmp 72), none⟩]
@[reducible] def q6_9 : SCode := .region [⟨some 6, .assign (.const (.bool false)), none⟩]
@[reducible] def q6_10 : SCode := .region [⟨some 74, .move (.tmp 0), none⟩,
    ⟨some 75, .move (.tmp 2), none⟩,
    ⟨some 76, .call { callee := .value (.func 38), args := #[.tmp 74, .tmp 75], argTypes := #[3, 47] }, none⟩,
    ⟨some 77, .unOp .not 4 (.tmp 76), none⟩]
@[reducible] def q6_11 : SCode := .region [⟨some 78, .move (.tmp 9), none⟩,
    ⟨some 79, .unOp .not 4 (.tmp 78), none⟩,
    ⟨some 80, .move (.tmp 79), none⟩,
    ⟨some 81, .move (.tmp 10), some (80, true)⟩,
    ⟨some 82, .binOp .eql 27 (.tmp 81) (.const (.int .i64 2)) 27, some (80, true)⟩,
    ⟨some 83, .pick (.tmp 80) (.tmp 82) (.const (.bool false)), none⟩,
    ⟨some 84, .move (.tmp 83), none⟩,
    ⟨some 85, .call { callee := .value (.func 21), args := #[], argTypes := #[] }, some (84, true)⟩,
    ⟨some 86, .pick (.tmp 84) (.tmp 85) (.const (.bool false)), none⟩,
    ⟨some 6, .assign (.tmp 86), none⟩]
@[reducible] def q6_12 : SCode := .region [⟨some 87, .move (.tmp 9), none⟩,
    ⟨some 88, .move (.tmp 0), none⟩,
    ⟨some 89, .move (.tmp 1), none⟩,
    ⟨some 90, .move (.tmp 2), none⟩,
    ⟨some 91, .call { callee := .value (.func 39), args := #[.tmp 88, .tmp 89, .tmp 90], argTypes := #[3, 22, 47] }, none⟩,
    ⟨some 92, .binOp .eql 4 (.tmp 87) (.tmp 91) 4, none⟩,
    ⟨some 93, .move (.tmp 92), none⟩,
    ⟨some 94, .move (.tmp 10), some (93, true)⟩,
    ⟨some 95, .binOp .eql 27 (.tmp 94) (.const (.int .i64 0)) 27, some (93, true)⟩,
    ⟨some 96, .pick (.tmp 93) (.tmp 95) (.const (.bool false)), none⟩,
    ⟨some 97, .move (.tmp 96), none⟩,
    ⟨some 98, .call { callee := .value (.func 21), args := #[], argTypes := #[] }, some (97, true)⟩,
    ⟨some 99, .pick (.tmp 97) (.tmp 98) (.const (.bool false)), none⟩,
    ⟨some 6, .assign (.tmp 99), none⟩]
def s6 : SCode := (.seq q6_0 (.seq q6_1 (.seq q6_2 (.seq (.seq q6_3 (.cond (.tmp 30) (.seq q6_4 .ret) .skip)) (.seq (.seq q6_5 (.cond (.tmp 51) (.seq q6_6 (.cond (.tmp 66) (.seq q6_7 .ret) .skip)) (.seq q6_8 (.cond (.tmp 73) (.seq q6_9 .ret) .skip)))) (.seq (.seq q6_10 (.cond (.tmp 77) (.seq q6_11 .ret) .skip)) (.seq q6_12 .ret)))))))
theorem s6_strip : Zz (Zu Try.f6) = s6 := by kernel_rfl
theorem s6_ok : Yl 100 (Zu Try.f6) = true := by kernel_rfl
end Go.Proofs.Try.Am

namespace Go.Proofs.Try.Am
open Go.Am Bq
set_option maxRecDepth 100000
set_option maxHeartbeats 4000000

theorem valid_take (n : Int) (l : List (Int × Int)) : Xf n (l.take 9) = Xf n l := by
  by_cases h : l.length ≤ 9
  · rw [List.take_of_length_le h]
  · have h1 : (l.take 9).length = 9 := by rw [List.length_take]; omega
    rw [Xf, Xf, h1, show decide (9 ≤ 6) = false by decide, show decide (l.length ≤ 6) = false by simp; omega]
    simp
theorem inEv_bit (f : Nat → Rat) (e n : Nat) : Ya (inEv f e) n = evq n f e := Zy fun w hw => by
  rw [inEv, bitQ]
  split
  · rw [Rat.one_mul]
  · rw [Rat.zero_mul]
theorem fq_map {b : List Rat} {w : Nat} (hw : w < b.length) : fq (b.map ofQ) w = b.getD w 0 := by
  rw [fq, List.getD, List.getElem?_map, List.getElem?_eq_getElem hw, List.getD, List.getElem?_eq_getElem hw]; exact toQ_ofQ _
theorem mulTo_dvd' {N : Nat} (hN : 0 < N) (hB : N ≤ 10000000000) : ∀ (ps : List (Int × Int)) (m : Nat), 0 < m → m ∣ N → (∀ p ∈ ps, okP p = true ∧ p.2.natAbs ∣ N) → mulTo ps m ≠ 0 ∧ mulTo ps m ∣ N
  | [], m, h0, h1, _ => ⟨by rw [mulTo]; omega, by rw [mulTo]; exact h1⟩
  | p :: ps, m, h0, h1, h => by
    obtain ⟨k1, k2⟩ := h p (by simp)
    have hl : Nat.lcm m p.2.natAbs ∣ N := Nat.lcm_dvd h1 k2
    have hlN := Nat.le_of_dvd hN hl
    have hp0 : 0 < p.2.natAbs := Nat.pos_of_dvd_of_pos k2 hN
    rw [mulTo, if_pos ⟨k1, by omega⟩]
    exact mulTo_dvd' hN hB ps _ (Nat.lcm_pos h0 hp0) hl fun q hq => h q (by simp [hq])
theorem okP_of' {q : Rat} (h0 : 0 ≤ q) (hd : q.den ≤ 10000000000) : okP (ofQ q) = true := by
  have h1 : 0 ≤ q.num := Rat.num_nonneg.2 h0
  have h2 := q.den_pos
  have h3 := q.reduced
  simp only [okP, ofQ, Bool.and_eq_true, beq_iff_eq]
  refine ⟨⟨⟨decide_eq_true (by omega), decide_eq_true (by omega)⟩, decide_eq_true h1⟩, ?_⟩
  rw [Int.natAbs_natCast]; exact h3
theorem chn_inR' {ps : List (Int × Int)} (c : Chn ps) : InR ps := fun p hp => by
  have h1 := c.ok hp
  have h2 := c.le p hp
  simp only [okP, Bool.and_eq_true, decide_eq_true_eq] at h1
  omega
/-- A corner, as it is handed out. -/
theorem corner_facts {n : Nat} {l : List (Int × Int)} {b : List Rat} (hval : Xf n l = true) (hb : b ∈ Wu n l) :
    b.length = n ∧ Feas n l (fun w => b.getD w 0) ∧ (∀ w, w < n → b.getD w 0 ≤ 1) ∧ (∃ D, 0 < D ∧ D ≤ 720 ∧ Xv (b.map ofQ) ∣ D) ∧ Chn (b.map ofQ) ∧ agB l (b.map ofQ) = true := by
  obtain ⟨hn2, hn5, hl1, hl6, hok⟩ := Vb hval
  obtain ⟨set, h1, h2, h3⟩ := mem_corners.1 hb
  obtain ⟨hl, hf⟩ := corner_feas h3
  obtain ⟨D, d1, d2, d3⟩ := corner_den hn5 (cts_of hval) h3
  have hle : ∀ w, w < n → b.getD w 0 ≤ 1 := fun w hw => by
    have := sumTo_one (g := fun w => b.getD w 0) hw hf.nn
    rw [hf.one] at this; exact this
  have hmem : ∀ p ∈ b.map ofQ, ∃ w, w < n ∧ p = ofQ (b.getD w 0) := fun p hp => by
    obtain ⟨q, hq, rfl⟩ := List.mem_map.1 hp
    obtain ⟨w, hw, rfl⟩ := List.getElem_of_mem hq
    exact ⟨w, by omega, by rw [List.getD, List.getElem?_eq_getElem hw]; rfl⟩
  have hmul := mulTo_dvd' d1 (by omega) (b.map ofQ) 1 (by decide) (Nat.one_dvd _) fun p hp => by
    obtain ⟨w, hw, rfl⟩ := hmem p hp
    have hd := d3 w hw
    have := Nat.le_of_dvd d1 hd
    exact ⟨okP_of' (hf.nn w hw) (by omega), by rw [ofQ]; exact hd⟩
  have hc : Chn (b.map ofQ) := ⟨hmul.1, fun p hp => by
    obtain ⟨w, hw, rfl⟩ := hmem p hp
    have := hle w hw
    rw [Rat.le_iff] at this
    simpa [ofQ] using this⟩
  refine ⟨hl, hf, hle, ⟨D, d1, d2, hmul.2⟩, hc, ?_⟩
  rw [agB, List.length_map, hl, Bool.and_eq_true, decide_eq_true_eq, List.all_eq_true]
  refine ⟨by rw [Zy fun w hw => fq_map (show w < b.length by omega)]; exact hf.one, fun p hp => ?_⟩
  obtain ⟨i, hi, hip⟩ := List.getElem_of_mem hp
  have h4 := hf.bet i hi
  have hgi : l.getD i (0, 0) = p := by rw [List.getD, List.getElem?_eq_getElem hi]; exact hip
  rw [hgi] at h4
  rw [decide_eq_true_eq, inEv_bit, ← h4]
  exact Zy fun w hw => by rw [fq_map (by omega)]
theorem chances_take {n : Int} (hn : n ≤ 7) (b : List (Int × Int)) : Xs n (b.take 8) = Xs n b := by
  by_cases h : b.length ≤ 8
  · rw [List.take_of_length_le h]
  · rw [Xs, Xs, decide_eq_false (show ¬ (((b.take 8).length : Nat) : Int) = n by rw [List.length_take]; omega), decide_eq_false (show ¬ ((b.length : Nat) : Int) = n by omega)]
    simp

theorem s6_callW [Tabs Try.prog] {args : List Value} {h : Zh} {Q : Value → Zh → Prop} (hsz : args.length ≤ 100) (hk : AWS Try.prog 100 s6 (Zs Try.prog [.tmp 6] Q) (Zp 0 args) h) : ACall Try.prog 6 args h Q :=
  Ym Try.func6 rfl (enters_of Try.func6 (by kernel_rfl) rfl) rfl rfl (by decide) s6_strip s6_ok hsz hk
theorem law_sound [Tabs prog] {h : Zh} {v w : Value} {l b : List (Int × Int)} (n : Int) (hv : PairSl h v l) (hl : l.length < 9223372036854775808) (hxl : InR l) (hw : PairSl h w b) (hlb : b.length < 9223372036854775808) (hxb : InR b) :
    ACall prog 6 [Zc n, v, w] h fun r _ => r = .bool true := by
  refine s6_callW (by simp) ?_
  simp only [s6]
  refine Ze fun N1 hN1 => ?_
  simp (maxSteps := 2000000) only [↓Za, ↓Zb, ↓Zd, vup, cond_false, aop, Zf, Zp, ev, sput, Zg, Nat.reduceBEq, Nat.reduceAdd]
  refine hN1 [(0, Zc n), (1, v), (2, w), (6, .bool false)] _ _ ?_ (by simp (maxSteps := 2000000) only [vup, cond_true, cond_false, Nat.reduceBEq])
  clear hN1
  try clear N1
  refine Ze fun N2 hN2 => ?_
  simp (maxSteps := 2000000) only [↓Za, ↓Zb, ↓Zd, vup, List.map_cons, List.map_nil, cond_true, cond_false, aop, Zf, ev, sput, Zg, Nat.reduceBEq, Yr, List.nil_append, List.append_nil]
  refine (of_copy hv hl).mono ?_
  rintro u1 h1 ⟨hu1, hE1⟩
  refine (sound_call (n := n) hu1 (by rw [List.length_take]; omega) fun hval => ?_).mono ?_
  · rw [valid_take] at hval
    have hn : n = (n.toNat : Int) := by
      simp only [Xf, Bool.and_eq_true, decide_eq_true_eq] at hval; omega
    have h6 : l.length ≤ 6 := by
      simp only [Xf, Bool.and_eq_true, decide_eq_true_eq] at hval; omega
    rw [List.take_of_length_le (by omega)]
    rw [hn] at hval
    exact tame_all (by simp only [Xf, Bool.and_eq_true, decide_eq_true_eq] at hval; omega) (cts_of hval)
  rintro _ h2 ⟨hE2, x, e, rfl, his⟩
  simp (maxSteps := 2000000) only [extr_20, extr_21]
  refine hN2 [(0, Zc n), (1, v), (2, w), (6, .bool false), (7, x), (8, .int .i64 e)] _ _ ?_ (by simp (maxSteps := 2000000) only [vup, cond_true, cond_false, Nat.reduceBEq])
  clear hN2
  try clear N2
  have hE12 := hE1.trans hE2
  refine Ze fun N3 hN3 => ?_
  simp (maxSteps := 2000000) only [↓Za, ↓Zb, ↓Zd, vup, List.map_cons, List.map_nil, cond_true, cond_false, aop, Zf, ev, sput, Zg, Nat.reduceBEq, Yr, List.nil_append, List.append_nil]
  refine (of_copy (hv.ext hE12) hl).mono ?_
  rintro u2 h3 ⟨hu2, hE3⟩
  refine (fracs_call ((hw.ext hE12).ext hE3)).mono ?_
  rintro u3 h4 ⟨hu3, hE4⟩
  refine (progAgrees_call (n := n) (hu2.ext hE4) (by rw [List.length_take]; omega) hu3 (by rw [List.length_take]; omega) (fun p hp => hxb p (List.mem_of_mem_take hp))).mono ?_
  rintro _ H ⟨hE5, hr⟩
  have hEx : Ext (fun _ => False) h2 H := (hE3.trans hE4).trans hE5
  have hEH := hE12.trans hEx
  have hvH := hv.ext hEH
  have hwH := hw.ext hEH
  rw [valid_take] at hr
  rw [SoundIs, valid_take] at his
  have e00 : ((0 : Int) != 0) = false := rfl
  have z00 : ((0 : Int) == 0) = true := rfl
  have e22 : ((2 : Int) == 2) = true := rfl
  have e55 : ((5 : Int) != 5) = false := rfl
  have l0 : (((0 : Nat) : Int) == 0) = true := rfl
  have l0' : (((0 : Nat) : Int) != 0) = false := rfl
  cases hval : Xf n l with
  | false =>
    rw [hval, if_neg (by simp)] at hr
    rw [hval, if_neg (by simp)] at his
    obtain ⟨rfl, rfl⟩ := his
    rw [hr]
    simp (maxSteps := 2000000) only [extr_20, extr_21]
    refine hN3 [(0, Zc n), (1, v), (2, w), (6, .bool false), (7, .slice none 0 0), (8, .int .i64 2), (9, .bool false), (10, .int .i64 2)] _ _ ?_ (by simp (maxSteps := 2000000) only [vup, cond_true, cond_false, Nat.reduceBEq])
    clear hN3
    try clear N3
    refine Zk fun M hM => ?_
    refine Ze fun N4 hN4 => ?_
    simp (maxSteps := 2000000) only [↓Za, ↓Zb, ↓Zd, vup, List.map_cons, List.map_nil, cond_true, cond_false, aop, Zf, ev, sput, Zg, unK, Nat.reduceBEq, Yr, List.nil_append, List.append_nil]
    refine (rbets_call hvH hl).mono ?_
    rintro _ H ⟨rfl, rfl⟩
    rw [hval]
    simp (maxSteps := 2000000) only [vup]
    refine hN4 [(0, Zc n), (1, v), (2, w), (6, .bool false), (7, .slice none 0 0), (8, .int .i64 2), (9, .bool false), (10, .int .i64 2), (30, .bool true)] _ _ ?_ (by simp (maxSteps := 2000000) only [vup, cond_true, cond_false, Nat.reduceBEq])
    clear hN4
    try clear N4
    refine Xj rfl ?_
    refine Ze fun N5 hN5 => ?_
    simp only [q6_4]
    refine Vr 7 fun N1 hN1 => ?_
    simp (maxSteps := 2000000) only [↓Za, ↓Zb, ↓Zd, ↓vdn, vup, List.map_cons, List.map_nil, cond_true, cond_false, aop, ev, sput, Zg, Yb, Yd, unK, Zj, Nat.reduceBEq, tyf, List.take_succ_cons, List.take_zero, lenK, l0]
    refine hN1 _ _ ?_
    clear hN1 N1
    simp only [List.drop_succ_cons, List.drop_zero]
    refine Vr 4 fun N1 hN1 => ?_
    simp (maxSteps := 2000000) only [↓Za, ↓Zb, ↓Zd, ↓vdn, vup, cond_true, cond_false, aop, ev, sput, Zg, Yb, Yd, Nat.reduceBEq, List.take_succ_cons, List.take_zero, e22]
    refine hN1 _ _ ?_
    clear hN1 N1
    simp only [List.drop_succ_cons, List.drop_zero]
    refine Vr 4 fun N1 hN1 => ?_
    simp (maxSteps := 2000000) only [↓Za, ↓Zb, ↓Zd, ↓vdn, vup, cond_true, cond_false, aop, ev, sput, Zg, Yb, Yd, Nat.reduceBEq, List.take_succ_cons, List.take_zero, e22]
    refine hN1 _ _ ?_
    clear hN1 N1
    simp only [List.drop_succ_cons, List.drop_zero]
    simp (maxSteps := 2000000) only [↓Za, ↓Zb, ↓Zd, ↓vdn, vup, List.map_nil, cond_true, cond_false, aop, Zf, ev, sput, Zg, Nat.reduceBEq, Yr, List.append_nil]
    refine (awake_call).mono ?_
    rintro _ H ⟨rfl, hE9⟩
    refine hN5 [(0, Zc n), (1, v), (2, w), (6, .bool true), (7, .slice none 0 0), (8, .int .i64 2), (9, .bool false), (10, .int .i64 2), (30, .bool true)] _ _ ?_ (by simp (maxSteps := 2000000) only [vup, cond_true, cond_false, Nat.reduceBEq])
    clear hN5
    try clear N5
    refine Zi ?_
    simp (maxSteps := 2000000) only [↓Zv, vup, cond_true, cond_false, Zf, Nat.reduceBEq, Zs, Xw, tup]
  | true =>
    obtain ⟨k, hk⟩ : ∃ k : Nat, n = k := ⟨n.toNat, by simp only [Xf, Bool.and_eq_true, decide_eq_true_eq] at hval; omega⟩
    subst hk
    obtain ⟨hn2, hn5, hl1, hl6, hok⟩ := Vb hval
    have t1 : l.take 9 = l := List.take_of_length_le (by omega)
    rw [hval, if_pos rfl, t1] at his
    rw [t1] at hr
    obtain ⟨ok, f, hr2, hcase⟩ : ∃ (ok : Bool) (f : Int), (if Xf k l = true ∧ Xs k (b.take 8) = true then Value.tuple #[.bool (agB l (b.take 8)), .int .i64 0] else .tuple #[.bool false, .int .i64 2]) = .tuple #[.bool ok, .int .i64 f] ∧ ((Xs k b = true ∧ ok = agB l b ∧ f = 0) ∨ (Xs k b = false ∧ ok = false ∧ f = 2)) := by
      rw [chances_take (by omega)]
      cases hc : Xs k b with
      | false => exact ⟨false, 2, by rw [if_neg (by simp)], .inr ⟨rfl, rfl, rfl⟩⟩
      | true =>
        have t2 : b.take 8 = b := List.take_of_length_le (by have := (chances_chn hc).2; omega)
        exact ⟨agB l b, 0, by rw [if_pos ⟨hval, rfl⟩, t2], .inl ⟨rfl, rfl, rfl⟩⟩
    rw [hr2] at hr
    rw [hr]
    simp (maxSteps := 2000000) only [extr_20, extr_21]
    refine hN3 [(0, Zc (k : Nat)), (1, v), (2, w), (6, .bool false), (7, x), (8, .int .i64 e), (9, .bool ok), (10, .int .i64 f)] _ _ ?_ (by simp (maxSteps := 2000000) only [vup, cond_true, cond_false, Nat.reduceBEq])
    clear hN3
    try clear N3
    clear hr hr2
    refine Zk fun M hM => ?_
    refine Ze fun N6 hN6 => ?_
    simp (maxSteps := 2000000) only [↓Za, ↓Zb, ↓Zd, vup, List.map_cons, List.map_nil, cond_true, cond_false, aop, Zf, ev, sput, Zg, unK, Nat.reduceBEq, Yr, List.nil_append, List.append_nil]
    refine (rbets_call hvH hl).mono ?_
    rintro _ H ⟨rfl, rfl⟩
    rw [hval]
    simp (maxSteps := 2000000) only [vup]
    refine hN6 [(0, Zc (k : Nat)), (1, v), (2, w), (6, .bool false), (7, x), (8, .int .i64 e), (9, .bool ok), (10, .int .i64 f), (30, .bool false)] _ _ ?_ (by simp (maxSteps := 2000000) only [vup, cond_true, cond_false, Nat.reduceBEq])
    clear hN6
    try clear N6
    refine Yu rfl ?_
    refine Zi ?_
    simp (maxSteps := 2000000) only [↓Zo, Zf]
    refine hM [(0, Zc (k : Nat)), (1, v), (2, w), (6, .bool false), (7, x), (8, .int .i64 e), (9, .bool ok), (10, .int .i64 f)] _ _ ?_ (by simp (maxSteps := 2000000) only [vup, cond_true, cond_false, Nat.reduceBEq])
    clear hM
    try clear M
    refine Zk fun M hM => ?_
    have last : ∀ e', ELe e' [(0, Zc (k : Nat)), (1, v), (2, w), (6, .bool false), (9, .bool ok), (10, .int .i64 f)] → M e' H := by
      intro e' he
      refine hM _ _ _ ?_ he
      have agc := fun cn hlen => ragrees_call (h := H) (n := k) hvH hwH hval hlen cn hxb
      have chc := chances_call (h := H) (n := (k : Int)) hwH hlb hxb
      refine Zk fun D hD => ?_
      rcases hcase with ⟨hc, rfl, rfl⟩ | ⟨hc, rfl, rfl⟩
      · rw [hc] at chc
        refine Ze fun N7 hN7 => ?_
        simp (maxSteps := 2000000) only [↓Za, ↓Zb, ↓Zd, vup, List.map_cons, List.map_nil, cond_true, cond_false, aop, Zf, ev, sput, Zg, unK, Nat.reduceBEq, Yr, List.nil_append, List.append_nil]
        refine (chc).mono ?_
        rintro _ H ⟨rfl, rfl⟩
        simp (maxSteps := 2000000) only [vup]
        refine hN7 [(0, Zc (k : Nat)), (1, v), (2, w), (6, .bool false), (9, .bool (agB l b)), (10, .int .i64 0), (77, .bool false)] _ _ ?_ (by simp (maxSteps := 2000000) only [vup, cond_true, cond_false, Nat.reduceBEq])
        clear hN7
        try clear N7
        refine Yu rfl ?_
        refine Zi ?_
        simp (maxSteps := 2000000) only [↓Zo, Zf]
        refine hD [(0, Zc (k : Nat)), (1, v), (2, w), (6, .bool false), (9, .bool (agB l b)), (10, .int .i64 0)] _ _ ?_ (by simp (maxSteps := 2000000) only [vup, cond_true, cond_false, Nat.reduceBEq])
        clear hD
        try clear D
        obtain ⟨cn, hlen⟩ := chances_chn hc
        obtain ⟨A, hA⟩ : ∃ A, agB l b = A := ⟨_, rfl⟩
        have agc2 := agc cn (by omega)
        rw [hA] at agc2 ⊢
        have hBB : (A == A) = true := by simp
        refine Ze fun N8 hN8 => ?_
        simp only [q6_12]
        refine Vr 6 fun N1 hN1 => ?_
        simp (maxSteps := 2000000) only [↓Za, ↓Zb, ↓Zd, vup, List.map_cons, List.map_nil, cond_true, cond_false, aop, ev, sput, Zg, Yb, Yd, Nat.reduceBEq, tyf, Yr, List.nil_append, List.append_nil, List.take_succ_cons, List.take_zero]
        refine (agc2).mono ?_
        rintro _ H ⟨rfl, rfl⟩
        simp (maxSteps := 2000000) only [hBB]
        refine hN1 _ _ ?_
        clear hN1 N1
        simp only [List.drop_succ_cons, List.drop_zero]
        refine Vr 4 fun N1 hN1 => ?_
        simp (maxSteps := 2000000) only [↓Za, ↓Zb, ↓Zd, ↓vdn, vup, cond_true, cond_false, aop, ev, sput, Zg, Yb, Yd, Nat.reduceBEq, List.take_succ_cons, List.take_zero, z00]
        refine hN1 _ _ ?_
        clear hN1 N1
        simp only [List.drop_succ_cons, List.drop_zero]
        simp (maxSteps := 2000000) only [↓Za, ↓Zb, ↓Zd, ↓vdn, vup, List.map_nil, cond_true, cond_false, aop, Zf, ev, sput, Zg, Nat.reduceBEq, Yr, List.append_nil]
        refine (awake_call).mono ?_
        rintro _ H ⟨rfl, hE9⟩
        refine hN8 [(0, Zc (k : Nat)), (1, v), (2, w), (6, .bool true), (9, .bool A), (10, .int .i64 0)] _ _ ?_ (by simp (maxSteps := 2000000) only [vup, cond_true, cond_false, Nat.reduceBEq])
        clear hN8
        try clear N8
        refine Zi ?_
        simp (maxSteps := 2000000) only [↓Zv, vup, cond_true, cond_false, Nat.reduceBEq, Zs, Xw, tup]
      · rw [hc] at chc
        refine Ze fun N9 hN9 => ?_
        simp (maxSteps := 2000000) only [↓Za, ↓Zb, ↓Zd, vup, List.map_cons, List.map_nil, cond_true, cond_false, aop, Zf, ev, sput, Zg, unK, Nat.reduceBEq, Yr, List.nil_append, List.append_nil]
        refine (chc).mono ?_
        rintro _ H ⟨rfl, rfl⟩
        simp (maxSteps := 2000000) only [vup]
        refine hN9 [(0, Zc (k : Nat)), (1, v), (2, w), (6, .bool false), (9, .bool false), (10, .int .i64 2), (77, .bool true)] _ _ ?_ (by simp (maxSteps := 2000000) only [vup, cond_true, cond_false, Nat.reduceBEq])
        clear hN9
        try clear N9
        refine Xj rfl ?_
        refine Ze fun N10 hN10 => ?_
        simp only [q6_11]
        refine Vr 6 fun N1 hN1 => ?_
        simp (maxSteps := 2000000) only [↓Za, ↓Zb, ↓Zd, ↓vdn, vup, cond_true, cond_false, aop, ev, sput, Zg, Yb, Yd, unK, Nat.reduceBEq, List.take_succ_cons, List.take_zero, e22]
        refine hN1 _ _ ?_
        clear hN1 N1
        simp only [List.drop_succ_cons, List.drop_zero]
        simp (maxSteps := 2000000) only [↓Za, ↓Zb, ↓Zd, ↓vdn, vup, List.map_nil, cond_true, cond_false, aop, Zf, ev, sput, Zg, Nat.reduceBEq, Yr, List.append_nil]
        refine (awake_call).mono ?_
        rintro _ H ⟨rfl, hE9⟩
        refine hN10 [(0, Zc (k : Nat)), (1, v), (2, w), (6, .bool true), (9, .bool false), (10, .int .i64 2), (77, .bool true)] _ _ ?_ (by simp (maxSteps := 2000000) only [vup, cond_true, cond_false, Nat.reduceBEq])
        clear hN10
        try clear N10
        refine Zi ?_
        simp (maxSteps := 2000000) only [↓Zv, vup, cond_true, cond_false, Zf, Nat.reduceBEq, Zs, Xw, tup]
    have rsc := rsound_call (h := H) hvH hval
    rw [Int.toNat_natCast] at his
    cases hcs : Wu k l with
    | nil =>
      rw [hcs] at his rsc
      obtain ⟨rfl, rfl⟩ := his
      refine Ze fun N11 hN11 => ?_
      simp (maxSteps := 2000000) only [↓Za, ↓Zb, ↓Zd, vup, List.map_cons, List.map_nil, cond_true, cond_false, aop, Zf, ev, sput, Zg, Nat.reduceBEq, Yr, List.nil_append, List.append_nil]
      refine (rsc).mono ?_
      rintro _ H ⟨rfl, rfl⟩
      simp (maxSteps := 2000000) only [vup, List.isEmpty_nil]
      refine hN11 [(0, Zc (k : Nat)), (1, v), (2, w), (6, .bool false), (7, .slice none 0 0), (8, .int .i64 5), (9, .bool ok), (10, .int .i64 f), (51, .bool false)] _ _ ?_ (by simp (maxSteps := 2000000) only [vup, cond_true, cond_false, Nat.reduceBEq])
      clear hN11
      try clear N11
      refine Yu rfl ?_
      refine Ze fun N12 hN12 => ?_
      simp (maxSteps := 2000000) only [↓Za, ↓Zb, ↓Zd, ↓vdn, vup, List.map_cons, List.map_nil, cond_true, cond_false, aop, Zf, ev, sput, Zg, Yb, Yd, Zj, Nat.reduceBEq, tyf, lenK, l0', e55]
      refine hN12 [(0, Zc (k : Nat)), (1, v), (2, w), (6, .bool false), (7, .slice none 0 0), (8, .int .i64 5), (9, .bool ok), (10, .int .i64 f), (51, .bool false), (73, .bool false)] _ _ ?_ (by simp (maxSteps := 2000000) only [vup, cond_true, cond_false, Nat.reduceBEq])
      clear hN12
      try clear N12
      refine Yu rfl ?_
      refine Zi ?_
      simp (maxSteps := 2000000) only [↓Zo, Zf]
      exact last _ (by simp (maxSteps := 2000000) only [vup, cond_true, cond_false, Nat.reduceBEq])
    | cons c cs =>
      rw [hcs] at his rsc
      obtain ⟨rfl, bl, rfl, hbl⟩ := his
      have hblH : H[bl]? = some (.cells ((Yk (c.map ofQ)).map Zc) 26 false) := (hEx.2 _ (Xa hbl) id).trans hbl
      obtain ⟨hcl, hcf, _, _, hcn, hag⟩ := corner_facts (b := c) hval (by rw [hcs]; simp)
      have px := Vt hblH
      have hml : (c.map ofQ).length = k := by rw [List.length_map, hcl]
      rw [hml] at px
      have hch : Xs k (c.map ofQ) = true := by
        simp only [Xs, Bool.and_eq_true, decide_eq_true_eq, List.all_eq_true, hml]
        exact ⟨trivial, hcn.m, hcn.le⟩
      have chc := chances_call (h := H) (n := (k : Int)) px (by omega) (chn_inR' hcn)
      rw [hch] at chc
      have agc := ragrees_call (h := H) hvH px hval hml hcn (chn_inR' hcn)
      rw [hag] at agc
      rw [hcl]
      refine Ze fun N13 hN13 => ?_
      simp (maxSteps := 2000000) only [↓Za, ↓Zb, ↓Zd, vup, List.map_cons, List.map_nil, cond_true, cond_false, aop, Zf, ev, sput, Zg, Nat.reduceBEq, Yr, List.nil_append, List.append_nil]
      refine (rsc).mono ?_
      rintro _ H ⟨rfl, rfl⟩
      simp (maxSteps := 2000000) only [vup, List.isEmpty_cons]
      refine hN13 [(0, Zc (k : Nat)), (1, v), (2, w), (6, .bool false), (7, .slice (some ⟨bl, 0, none⟩) k k), (8, .int .i64 0), (9, .bool ok), (10, .int .i64 f), (51, .bool true)] _ _ ?_ (by simp (maxSteps := 2000000) only [vup, cond_true, cond_false, Nat.reduceBEq])
      clear hN13
      try clear N13
      refine Xj rfl ?_
      refine Ze fun N14 hN14 => ?_
      simp only [q6_6]
      refine Vr 6 fun N1 hN1 => ?_
      simp (maxSteps := 2000000) only [↓Za, ↓Zb, ↓Zd, ↓vdn, vup, List.map_cons, List.map_nil, cond_true, cond_false, aop, ev, sput, Zg, Yb, Yd, Nat.reduceBEq, Yr, List.nil_append, List.append_nil, List.take_succ_cons, List.take_zero, e00]
      refine (chc).mono ?_
      rintro _ H ⟨rfl, rfl⟩
      refine hN1 _ _ ?_
      clear hN1 N1
      simp only [List.drop_succ_cons, List.drop_zero]
      refine Vr 3 fun N1 hN1 => ?_
      simp (maxSteps := 2000000) only [↓Za, ↓Zb, ↓Zd, ↓vdn, vup, cond_true, cond_false, aop, ev, sput, Zg, unK, Nat.reduceBEq, List.take_succ_cons, List.take_zero]
      refine hN1 _ _ ?_
      clear hN1 N1
      simp only [List.drop_succ_cons, List.drop_zero]
      simp (maxSteps := 2000000) only [↓Za, ↓Zb, ↓Zd, ↓vdn, vup, List.map_cons, List.map_nil, cond_true, cond_false, aop, Zf, ev, sput, Zg, unK, Nat.reduceBEq, Yr, List.nil_append, List.append_nil]
      refine (agc).mono ?_
      rintro _ H ⟨rfl, rfl⟩
      simp (maxSteps := 2000000) only [vup]
      refine hN14 [(0, Zc (k : Nat)), (1, v), (2, w), (6, .bool false), (7, .slice (some ⟨bl, 0, none⟩) k k), (8, .int .i64 0), (9, .bool ok), (10, .int .i64 f), (51, .bool true), (66, .bool false)] _ _ ?_ (by simp (maxSteps := 2000000) only [vup, cond_true, cond_false, Nat.reduceBEq])
      clear hN14
      try clear N14
      refine Yu rfl ?_
      refine Zi ?_
      simp (maxSteps := 2000000) only [↓Zo, Zf]
      exact last _ (by simp (maxSteps := 2000000) only [vup, cond_true, cond_false, Nat.reduceBEq])
end Go.Proofs.Try.Am

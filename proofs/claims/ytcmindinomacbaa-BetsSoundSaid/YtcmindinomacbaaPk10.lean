/-
  bets: the corners, found.
  Printed by gen.py: the code of some functions, without what no step looks at; held against the program's own by the kernel.
  Printed by gen.py: the code of some functions, without what no step looks at; held against the program's own by the kernel.
  bets: copies of slices; slices held against each other.
  bets: Sound; that the program is awake.
  bets: whether a belief agrees.
  bets: scores and averages, in the program and in the reference.
  bets: averages of scores.
  bets: the reference's averages and scores.
  bets: determinants, by their first column. Plain Lean, no program.
  bets: elimination: what it keeps, how great its numbers are, what it tells. Plain Lean, no program.
  bets: what a solution is; what it means that there is none. Plain Lean, no program.
-/
import Derived.Test.YtcmindinomacbaaPk9
import Derived.Test.YtcmindinomacbaaPk3
import Derived.Test.YtcmindinomacbaaProg
import Derived.KernelRfl
import Derived.Shelf.Abstract
import Derived.Test.YtcmindinomacbaaPk6
import Derived.Test.YtcmindinomacbaaPk7
import Derived.Test.YtcmindinomacbaaPk5
import Derived.Test.YtcmindinomacbaaPk8
set_option linter.all false
namespace Go.Proofs.Try.Am
open Go.Am Bq
set_option maxRecDepth 100000
set_option maxHeartbeats 4000000

theorem Vw {a b : Nat} (h1 : ¬ (a : Int) < b) (h2 : a ≤ b) : b = a := by omega
theorem castI_snoc (L : List Nat) (k : Nat) : Vf (L ++ [k]) = Vf L ++ [(k : Int)] := by simp [Vf]

theorem s60_callW [Tabs Try.prog] {args : List Value} {h : Zh} {Q : Value → Zh → Prop} (hsz : args.length ≤ 103) (hk : AWS Try.prog 103 s60 (Zs Try.prog [.tmp 2] Q) (Zp 0 args) h) : ACall Try.prog 60 args h Q :=
  Ym Try.func60 rfl (enters_of Try.func60 (by kernel_rfl) rfl) rfl rfl (by decide) s60_strip s60_ok hsz hk
theorem corners_call [Tabs prog] {h : Zh} {n : Nat} {v : Value} {l : List (Int × Int)} (hv : PairSl h v l) (hval : Xf n l = true) (htame : TameAll n l) :
    ACall prog 60 [.agg #[Zc (n : Nat), v]] h fun r h' => Ext (fun _ => False) h h' ∧ CornSl h' r (Wu n l) ∧ ∀ b, Yh r = some b → h.length ≤ b := by
  obtain ⟨hn2, hn5, hl1, hl6, hok⟩ := Vb hval
  have hpn : (2 : Nat) ^ n ≤ 2 ^ 5 := Nat.pow_le_pow_right (by decide) hn5
  have hp32 : (2 : Nat) ^ n ≤ 32 := hpn
  have hpp := Nat.two_pow_pos n
  have hsh : shlV .i64 1 (n : Int) = ((2 ^ n : Nat) : Int) := by rw [shl1 (by omega), pow_cast]
  have hsub : subV .i64 ((2 ^ n : Nat) : Int) 1 = ((2 ^ n - 1 : Nat) : Int) := by rw [subN (by omega)]; omega
  obtain ⟨H, hH⟩ : ∃ H, H = h ++ [Blk.cells [Zc (n : Nat), v] 86 false] := ⟨_, rfl⟩
  have hE : Ext (fun _ => False) h H := by rw [hH]; exact Ext.app _ _ _
  have t1 : H[h.length]? = some (.cells [Zc (n : Nat), v] 86 false) := by rw [hH]; exact Zw _ _
  refine s60_callW (by simp) ?_
  simp only [s60]
  refine Ze fun N1 hN1 => ?_
  simp (maxSteps := 2000000) only [↓Za, ↓Zb, ↓Zd, vup, cond_true, cond_false, aop, Zf, Zp, ev, sput, Zg, Nat.reduceBEq, boxT, Yq]
  rw [← hH]
  refine hN1 [(1, .pointer (some ⟨h.length, 0, none⟩)), (2, .slice none 0 0)] _ _ ?_ (by simp (maxSteps := 2000000) only [vup, cond_true, cond_false, Nat.reduceBEq])
  clear hN1
  try clear N1
  refine Ze fun N2 hN2 => ?_
  simp (maxSteps := 2000000) only [↓Za, ↓Zb, ↓Zd, vup, cond_false, aop, Zf, ev, sput, Zg, Nat.reduceBEq]
  refine hN2 [(1, .pointer (some ⟨h.length, 0, none⟩)), (2, .slice none 0 0), (3, .slice none 0 0)] _ _ ?_ (by simp (maxSteps := 2000000) only [vup, cond_true, cond_false, Nat.reduceBEq])
  clear hN2
  try clear N2
  refine Zk fun Z hZ => ?_
  refine Ze fun N3 hN3 => ?_
  simp (maxSteps := 2000000) only [↓Za, ↓Zb, ↓Zd, vup, cond_false, aop, Zf, ev, sput, Zg, Nat.reduceBEq]
  refine hN3 [(1, .pointer (some ⟨h.length, 0, none⟩)), (2, .slice none 0 0), (3, .slice none 0 0), (4, .int .i64 1)] _ _ ?_ (by simp (maxSteps := 2000000) only [vup, cond_true, cond_false, Nat.reduceBEq])
  clear hN3
  try clear N3
  refine Zl ?_
  refine Zn fun Q hQ => ?_
  refine Yj (γ := Nat × Value × Zh) (fun s => 1 ≤ s.1 ∧ s.1 ≤ 2 ^ n ∧ CornSl s.2.2 s.2.1 (Xq n l (s.1 - 1)) ∧ Ext (fun _ => False) H s.2.2 ∧ ∀ b, Yh s.2.1 = some b → H.length ≤ b)
    (fun s => ([(1, .pointer (some ⟨h.length, 0, none⟩)), (2, .slice none 0 0), (3, s.2.1), (4, Zc (s.1 : Nat))], s.2.2)) (fun s => 2 ^ n - s.1) (1, .slice none 0 0, H) ⟨Nat.le_refl _, hpp, ⟨[], .inl ⟨rfl, rfl⟩, trivial⟩, Ext.refl _ _, fun b hb => by cases hb⟩ (by simp (maxSteps := 2000000) only [vup, cond_true, cond_false, Nat.reduceBEq, Int.natCast_one]) rfl ?_
  rintro ⟨s, out, hp⟩ ⟨hs1, hs, hcs, hEp, hbo⟩
  simp only at hs1 hs hcs hEp hbo
  refine Zn fun Q2 hQ2 => ?_
  simp only [l60_3]
  have t1p : hp[h.length]? = some (.cells [Zc (n : Nat), v] 86 false) := (hEp.2 _ (Xa t1) id).trans t1
  have hHl : h.length < H.length := Xa t1
  by_cases hin : (s : Int) < ((2 ^ n : Nat) : Int)
  · have hs' : s < 2 ^ n := by omega
    refine Ze fun N4 hN4 => ?_
    simp (maxSteps := 2000000) only [↓Za, ↓Zo, ↓Zr, ↓Zb, ↓Zd, ↓vdn, vup, cond_true, cond_false, aop, Zf, ev, sput, Zg, Yb, Yd, Nat.reduceBEq, tyf, tA0, loadT0 t1p, Int.natCast_nonneg, hsh, hin]
    refine hN4 [(1, .pointer (some ⟨h.length, 0, none⟩)), (2, .slice none 0 0), (3, out), (4, Zc (s : Nat))] _ _ ?_ (by simp (maxSteps := 2000000) only [vup, cond_true, cond_false, Nat.reduceBEq])
    clear hN4
    try clear N4
    refine Zk fun Y hY => ?_
    refine Zl ?_
    -- the worlds' box
    obtain ⟨H1, hH1⟩ : ∃ H1, H1 = hp ++ [Blk.cells [.slice none 0 0] 38 false] := ⟨_, rfl⟩
    have b5 : H1[hp.length]? = some (.cells [.slice none 0 0] 38 false) := by rw [hH1]; exact Zw _ _
    have hE1 : Ext (fun _ => False) hp H1 := by rw [hH1]; exact Ext.app _ _ _
    have hH1l : H1.length = hp.length + 1 := by rw [hH1]; simp
    refine Ze fun N5 hN5 => ?_
    simp (maxSteps := 2000000) only [↓Za, ↓Zb, ↓Zd, vup, cond_false, aop, Zf, sput, Zg, Nat.reduceBEq, tyf, Xm, Yq]
    rw [← hH1]
    refine hN5 [(1, .pointer (some ⟨h.length, 0, none⟩)), (2, .slice none 0 0), (3, out), (4, Zc (s : Nat)), (5, .pointer (some ⟨hp.length, 0, none⟩))] _ _ ?_ (by simp (maxSteps := 2000000) only [vup, cond_true, cond_false, Nat.reduceBEq])
    clear hN5
    try clear N5
    -- the worlds
    refine Zk fun X hX => ?_
    refine Ze fun N6 hN6 => ?_
    simp (maxSteps := 2000000) only [↓Za, ↓Zb, ↓Zd, vup, cond_true, cond_false, aop, Zf, ev, sput, Zg, Nat.reduceBEq, tA0, loadT0 ((hE1.2 _ (Xa t1p) id).trans t1p)]
    refine hN6 [(1, .pointer (some ⟨h.length, 0, none⟩)), (2, .slice none 0 0), (3, out), (4, Zc (s : Nat)), (5, .pointer (some ⟨hp.length, 0, none⟩)), (24, Zc (n : Nat)), (25, .int .i64 0)] _ _ ?_ (by simp (maxSteps := 2000000) only [vup, cond_true, cond_false, Nat.reduceBEq])
    clear hN6
    try clear N6
    refine Zl ?_
    refine Zn fun Qa hQa => ?_
    refine Yj (γ := Nat × Value × Zh) (fun g => g.1 ≤ n ∧ g.2.2[hp.length]? = some (.cells [g.2.1] 38 false) ∧ OwnSl 3 g.2.2 g.2.1 (Vf (Ye s g.1)) ∧ Ext (fun _ => False) hp g.2.2 ∧ (∀ b, Yh g.2.1 = some b → hp.length < b))
      (fun g => ([(1, .pointer (some ⟨h.length, 0, none⟩)), (2, .slice none 0 0), (3, out), (4, Zc (s : Nat)), (5, .pointer (some ⟨hp.length, 0, none⟩)), (24, Zc (n : Nat)), (25, Zc (g.1 : Nat))], g.2.2)) (fun g => n - g.1) (0, .slice none 0 0, H1) ⟨Nat.zero_le _, b5, .inl ⟨rfl, rfl⟩, hE1, fun b hb => by cases hb⟩ (by simp (maxSteps := 2000000) only [vup, cond_true, cond_false, Nat.reduceBEq, Int.natCast_zero]) rfl ?_
    rintro ⟨k, wv, G⟩ ⟨hk, g5, how, hEG, hbw⟩
    simp only at hk g5 how hEG hbw
    refine Zn fun Qb hQb => ?_
    simp only [l60_0]
    by_cases hkin : (k : Int) < n
    · have hk' : k < n := by omega
      have ht := testV (y := k) (show s < 9223372036854775808 by omega)
      have hnx := Xz s k
      refine Ze fun N7 hN7 => ?_
      simp (maxSteps := 2000000) only [↓Za, ↓Zb, ↓Zd, vup, cond_true, cond_false, aop, Zf, ev, sput, Zg, Yb, Yd, Nat.reduceBEq, hkin]
      refine hN7 [(1, .pointer (some ⟨h.length, 0, none⟩)), (2, .slice none 0 0), (3, out), (4, Zc (s : Nat)), (5, .pointer (some ⟨hp.length, 0, none⟩)), (24, Zc (n : Nat)), (25, Zc (k : Nat)), (26, .bool true)] _ _ ?_ (by simp (maxSteps := 2000000) only [vup, cond_true, cond_false, Nat.reduceBEq])
      clear hN7
      try clear N7
      refine Ze fun N8 hN8 => ?_
      simp (maxSteps := 2000000) only [↓Zo, ↓vdn, vup, cond_true, cond_false, Zf, ev, Nat.reduceBEq]
      refine hN8 [(1, .pointer (some ⟨h.length, 0, none⟩)), (2, .slice none 0 0), (3, out), (4, Zc (s : Nat)), (5, .pointer (some ⟨hp.length, 0, none⟩)), (24, Zc (n : Nat)), (25, Zc (k : Nat))] _ _ ?_ (by simp (maxSteps := 2000000) only [vup, cond_true, cond_false, Nat.reduceBEq])
      clear hN8
      try clear N8
      refine Zk fun B hB => ?_
      refine Zl ?_
      refine Ze fun N9 hN9 => ?_
      simp (maxSteps := 2000000) only [↓Za, ↓Zb, ↓Zd, vup, cond_true, cond_false, aop, Zf, ev, sput, Zg, Nat.reduceBEq]
      refine hN9 [(1, .pointer (some ⟨h.length, 0, none⟩)), (2, .slice none 0 0), (3, out), (4, Zc (s : Nat)), (5, .pointer (some ⟨hp.length, 0, none⟩)), (6, Zc (k : Nat)), (24, Zc (n : Nat)), (25, Zc (k : Nat))] _ _ ?_ (by simp (maxSteps := 2000000) only [vup, cond_true, cond_false, Nat.reduceBEq])
      clear hN9
      try clear N9
      refine Ze fun N10 hN10 => ?_
      simp (maxSteps := 2000000) only [↓Za, ↓Zb, ↓Zd, vup, cond_true, cond_false, aop, Zf, ev, sput, Zg, Yb, Yd, Nat.reduceBEq, ht, beq1, Int.natCast_nonneg]
      refine hN10 [(1, .pointer (some ⟨h.length, 0, none⟩)), (2, .slice none 0 0), (3, out), (4, Zc (s : Nat)), (5, .pointer (some ⟨hp.length, 0, none⟩)), (6, Zc (k : Nat)), (24, Zc (n : Nat)), (25, Zc (k : Nat)), (32, .bool (s.testBit k))] _ _ ?_ (by simp (maxSteps := 2000000) only [vup, cond_true, cond_false, Nat.reduceBEq])
      clear hN10
      try clear N10
      cases hbit : s.testBit k with
      | false =>
        rw [hbit, if_neg (by decide), List.append_nil] at hnx
        refine Yu rfl ?_
        refine Zi ?_
        simp (maxSteps := 2000000) only [↓Zo, Zf, Zm]
        refine hB [(1, .pointer (some ⟨h.length, 0, none⟩)), (2, .slice none 0 0), (3, out), (4, Zc (s : Nat)), (5, .pointer (some ⟨hp.length, 0, none⟩)), (24, Zc (n : Nat)), (25, Zc (k : Nat))] _ _ ?_ (by simp (maxSteps := 2000000) only [vup, cond_true, cond_false, Nat.reduceBEq])
        clear hB
        try clear B
        refine Zi ?_
        simp (maxSteps := 2000000) only [↓Za, ↓Zb, ↓Zd, vup, cond_true, cond_false, aop, ev, sput, Zg, Yb, Yd, Nat.reduceBEq, add1 (show k < 9223372036854775807 by omega)]
        exact hQb _ _ _ ⟨(k + 1, wv, G), ⟨hk', g5, by simp only; rw [hnx]; exact how, hEG, hbw⟩, by simp only; omega, by simp (maxSteps := 2000000) only [vup, cond_true, cond_false, Nat.reduceBEq], rfl⟩
      | true =>
        rw [hbit, if_pos rfl] at hnx
        refine Xj rfl ?_
        refine Zi ?_
        simp (maxSteps := 2000000) only [↓Za, ↓Zb, ↓Zd, vup, List.map_cons, List.map_nil, cond_true, cond_false, aop, Zf, Zm, ev, sput, Zg, Zj, Nat.reduceBEq, load1 g5 shp_38, litI1]
        have hwl := Wz s k
        refine OwnSl.append (x := (k : Int)) (how.ext (S := fun _ => False) (Ext.app _ _ _) (fun _ _ => id)) app_38_38 (by rw [castI_len]; omega) (Zw _ _) ?_
        intro wv' G' ho' hE' hb'
        rw [← castI_snoc, ← hnx] at ho'
        have g5' : G'[hp.length]? = some (.cells [wv] 38 false) := by
          rw [hE'.2 _ (by rw [List.length_append]; have := Xa g5; omega) (fun hc => by have := hbw _ hc; omega)]
          exact Xy g5 _
        have hone : one wv' = true := ho'.notI.2
        have hE2 : Ext (fun _ => False) hp G' := ext_app hEG (H' := G ++ [Blk.ints [(k : Int)] 3 false]) (by simp) (fun q hq => List.getElem?_append_left (by have := hEG.1; omega)) (fun b hb => by have := hbw b hb; omega) hE'
        have hbw' : ∀ b, Yh wv' = some b → hp.length < b := fun b hb => by
          rcases hb' with h1 | ⟨b', h1, h2⟩
          · exact hbw b (h1 ▸ hb)
          · rw [h1] at hb; cases hb
            rw [List.length_append] at h2
            have := Xa g5; omega
        simp (maxSteps := 2000000) only [store1 g5' shp_38 hone]
        refine hB [(1, .pointer (some ⟨h.length, 0, none⟩)), (2, .slice none 0 0), (3, out), (4, Zc (s : Nat)), (5, .pointer (some ⟨hp.length, 0, none⟩)), (24, Zc (n : Nat)), (25, Zc (k : Nat))] _ _ ?_ (by simp (maxSteps := 2000000) only [vup, cond_true, cond_false, Nat.reduceBEq])
        clear hB
        try clear B
        refine Zi ?_
        simp (maxSteps := 2000000) only [↓Za, ↓Zb, ↓Zd, vup, cond_true, cond_false, aop, ev, sput, Zg, Yb, Yd, Nat.reduceBEq, add1 (show k < 9223372036854775807 by omega)]
        refine hQb _ _ _ ⟨(k + 1, wv', G'.set hp.length (.cells [wv'] 38 false)), ⟨hk', Wn (Xa g5') _, ?_, hE2.set_ge (Nat.le_refl _) _, hbw'⟩, by simp only; omega, by simp (maxSteps := 2000000) only [vup, cond_true, cond_false, Nat.reduceBEq], rfl⟩
        exact ho'.ext (S := fun b => b = hp.length) (Ext.set _ rfl) (fun b hb hc => by have := hbw' b hb; omega)
    have hkn := Vw hkin hk
    subst hkn
    refine Ze fun N11 hN11 => ?_
    simp (maxSteps := 2000000) only [↓Za, ↓Zb, ↓Zd, vup, cond_true, cond_false, aop, Zf, ev, sput, Zg, Yb, Yd, Nat.reduceBEq, hkin]
    refine hN11 [(1, .pointer (some ⟨h.length, 0, none⟩)), (2, .slice none 0 0), (3, out), (4, Zc (s : Nat)), (5, .pointer (some ⟨hp.length, 0, none⟩)), (24, Zc (n : Nat)), (25, Zc (n : Nat)), (26, .bool false)] _ _ ?_ (by simp (maxSteps := 2000000) only [vup, cond_true, cond_false, Nat.reduceBEq])
    clear hN11
    try clear N11
    refine Ze fun N12 hN12 => ?_
    simp (maxSteps := 2000000) only [↓Yo, ↓vdn, vup, cond_true, cond_false, Zf, ev, Nat.reduceBEq]
    refine hQb _ _ _ (hQa _ _ _ ?_)
    simp (maxSteps := 2000000) only [Zf, Zm, if_true]
    refine hX [(1, .pointer (some ⟨h.length, 0, none⟩)), (2, .slice none 0 0), (3, out), (4, Zc (s : Nat)), (5, .pointer (some ⟨hp.length, 0, none⟩)), (26, .bool false)] _ _ ?_ (by simp (maxSteps := 2000000) only [vup, cond_true, cond_false, Nat.reduceBEq])
    clear hX
    try clear X
    obtain ⟨W, hW⟩ : ∃ W, W = Ye s n := ⟨_, rfl⟩
    have hWN : Yn n s = W := hW.symm
    have hWl : W.length ≤ n := by rw [hW]; exact Wz s n
    have hW1 : 1 ≤ W.length := by rw [← hWN]; exact worldsN_pos hs1 hs'
    have hWlt : ∀ w ∈ W, w < n := fun w hw => (worldsTo_lt (by rw [← hW]; exact hw)).1
    have htm := htame s hs1 hs'
    rw [hWN] at htm
    rw [← hW] at how
    obtain ⟨T, hT⟩ : ∃ T, T = sysB n l W := ⟨_, rfl⟩
    have hcorner : Wg n l s = (Xn (l.length + 1) W.length T).bind fun x => if x.any (fun q => decide (q < 0)) then none else some (Xk n W x W.length) := by rw [Wg, hWN, hT]
    rw [← hT] at htm
    clear hW hQa hQb
    refine Ze fun N13 hN13 => ?_
    simp (maxSteps := 2000000) only [↓Za, ↓Zb, ↓Zd, vup, List.map_cons, List.map_nil, cond_true, cond_false, aop, Zf, ev, sput, Zg, Nat.reduceBEq, List.map_toArray]
    refine hN13 [(1, .pointer (some ⟨h.length, 0, none⟩)), (2, .slice none 0 0), (3, out), (4, Zc (s : Nat)), (5, .pointer (some ⟨hp.length, 0, none⟩)), (7, .func (.func 100) #[] #[.pointer (some ⟨hp.length, 0, none⟩)]), (26, .bool false)] _ _ ?_ (by simp (maxSteps := 2000000) only [vup, cond_true, cond_false, Nat.reduceBEq])
    clear hN13
    try clear N13
    -- the first row
    have hpG : hp.length < G.length := Xa g5
    have t1G : G[h.length]? = some (.cells [Zc (n : Nat), v] 86 false) := (hEG.2 _ (Xa t1p) id).trans t1p
    refine Ze fun N14 hN14 => ?_
    simp only [q60_13]
    refine Xg [(5, 1), (6, 4)] (by kernel_rfl) (by kernel_rfl) (by kernel_rfl) (by kernel_rfl) ?_
    simp (maxSteps := 2000000) only [↓Yc, ↓vdn, vup, List.map_cons, List.map_nil, cond_true, cond_false, aop, Zf, ev, sput, Zg, Yb, Yd, Nat.reduceBEq, Nat.reduceAdd, tyf, tA0, loadT0 t1G, Int.natCast_nonneg, hsh, hsub, Yr, List.nil_append, List.append_nil, List.cons_append]
    refine ⟨_, _, (show Xc prog 70 [Zc 1] G (qV ((1 : Int) : Rat)) from whole_call), rfl, ?_⟩
    refine (row_call (q := ((1 : Int) : Rat)) g5 how.int (by omega) (show 2 ^ n - 1 < 9223372036854775808 by omega)).mono ?_
    rintro r0 G1 ⟨x1, x2, x3⟩
    have x2' : OwnP 26 G1 r0 (rowC T W.length 0) := by rw [hT, rowC_sum]; exact x2
    obtain ⟨bb, yy, hr0, -⟩ := Wd x2' Vv
    have lit0 : ∀ K : Value → Zh → Prop, Yp prog G1 103 1 [(0, r0)] K = K (.slice (some ⟨G1.length, 0, none⟩) 1 1) (G1 ++ [.cells [r0] 47 false]) := fun K => by rw [hr0]; exact litV el_103 zero_47 esz_47
    simp (maxSteps := 2000000) only [lit0]
    refine hN14 [(1, .pointer (some ⟨h.length, 0, none⟩)), (2, .slice none 0 0), (3, out), (4, Zc (s : Nat)), (5, .pointer (some ⟨hp.length, 0, none⟩)), (7, .func (.func 100) #[] #[.pointer (some ⟨hp.length, 0, none⟩)]), (8, .slice (some ⟨G1.length, 0, none⟩) 1 1), (26, .bool false)] _ _ ?_ (by simp (maxSteps := 2000000) only [vup, cond_true, cond_false, Nat.reduceBEq])
    clear hN14
    try clear N14
    have hbr0 : Yh r0 = some bb := by rw [hr0]; rfl
    have hbb := x3 bb hbr0
    have R0 : Rows hp.length (G1 ++ [.cells [r0] 47 false]) (.slice (some ⟨G1.length, 0, none⟩) 1 1) [r0] W.length T := by
      obtain ⟨b2, y2, e1, e2⟩ := Wd x2' Vv
      have hbl : bb < G1.length := by rw [e1] at hbr0; cases hbr0; exact Xa e2
      refine ⟨.inl ⟨_, rfl, Zw _ _⟩, by simp, fun i hi => ?_, fun i j hi hj _ => ?_, fun i hi hc => ?_, ⟨fun b hb => ?_, fun i b hi hb => ?_⟩⟩
      · obtain rfl : i = 0 := by simpa using hi
        exact x2'.ext (Ext.app _ _ _)
      · simp at hi hj; omega
      · obtain rfl : i = 0 := by simpa using hi
        simp only [List.getD, List.getElem?_cons_zero, Option.getD_some, hbr0] at hc
        cases hc; omega
      · cases hb; have := x1.1; omega
      · obtain rfl : i = 0 := by simpa using hi
        simp only [List.getD, List.getElem?_cons_zero, Option.getD_some, hbr0] at hb
        cases hb; omega
    have how0 : OwnSl 3 (G1 ++ [.cells [r0] 47 false]) wv (Vf W) := how.ext (S := fun _ => False) (x1.trans (Ext.app _ _ _)) (fun _ _ => id)
    have g50 : (G1 ++ [Blk.cells [r0] 47 false])[hp.length]? = some (.cells [wv] 38 false) := Xy ((x1.2 _ hpG id).trans g5) _
    have hE0 : Ext (fun _ => False) hp (G1 ++ [.cells [r0] 47 false]) := hEG.trans (x1.trans (Ext.app _ _ _))
    clear x1 x2 x2' x3 lit0 g5 how hEG t1G b5 hE1 hH1 hH1l H1
    have tI : ∀ G : Zh, Ext (fun _ => False) hp G → G[h.length]? = some (.cells [Zc (n : Nat), v] 86 false) ∧ PairSl G v l := fun G hx => ⟨(hx.2 _ (Xa t1p) id).trans t1p, hv.ext (hE.trans (hEp.trans hx))⟩
    -- a row for each bet
    refine Zk fun X hX => ?_
    refine Ze fun N15 hN15 => ?_
    simp (maxSteps := 2000000) only [↓Za, ↓Zb, ↓Zd, vup, List.map_cons, List.map_nil, cond_true, cond_false, aop, Zf, ev, sput, Zg, Zj, Nat.reduceBEq, tyf, tA1, loadT1 (tI _ hE0).1, hv.len]
    refine hN15 [(1, .pointer (some ⟨h.length, 0, none⟩)), (2, .slice none 0 0), (3, out), (4, Zc (s : Nat)), (5, .pointer (some ⟨hp.length, 0, none⟩)), (7, .func (.func 100) #[] #[.pointer (some ⟨hp.length, 0, none⟩)]), (8, .slice (some ⟨G1.length, 0, none⟩) 1 1), (26, .bool false), (48, v), (49, Zc l.length), (50, .int .i64 0)] _ _ ?_ (by simp (maxSteps := 2000000) only [vup, cond_true, cond_false, Nat.reduceBEq])
    clear hN15
    try clear N15
    refine Zl ?_
    refine Zn fun Qa hQa => ?_
    refine Yj (γ := Nat × Value × List Value × Zh) (fun g => g.1 ≤ l.length ∧ g.2.2.1.length = g.1 + 1 ∧ Rows hp.length g.2.2.2 g.2.1 g.2.2.1 W.length T ∧ (1 ≤ g.1 → OwnV 47 g.2.2.2 g.2.1 g.2.2.1) ∧ Ext (fun _ => False) hp g.2.2.2 ∧ g.2.2.2[hp.length]? = some (.cells [wv] 38 false) ∧ OwnSl 3 g.2.2.2 wv (Vf W))
      (fun g => ([(1, .pointer (some ⟨h.length, 0, none⟩)), (2, .slice none 0 0), (3, out), (4, Zc (s : Nat)), (5, .pointer (some ⟨hp.length, 0, none⟩)), (7, .func (.func 100) #[] #[.pointer (some ⟨hp.length, 0, none⟩)]), (8, g.2.1), (26, .bool false), (48, v), (49, Zc l.length), (50, Zc (g.1 : Nat))], g.2.2.2)) (fun g => l.length - g.1) (0, .slice (some ⟨G1.length, 0, none⟩) 1 1, [r0], G1 ++ [.cells [r0] 47 false]) ⟨Nat.zero_le _, rfl, R0, fun h0 => absurd h0 (by simp), hE0, g50, how0⟩ (by simp (maxSteps := 2000000) only [vup, cond_true, cond_false, Nat.reduceBEq, Int.natCast_zero]) rfl ?_
    rintro ⟨i, q, ws, G⟩ ⟨hi, hwsl, R, hOwn, hEG, g5, how⟩
    simp only at hi hwsl R hOwn hEG g5 how
    refine Zn fun Qb hQb => ?_
    simp only [l60_1]
    have sepq : Yh q ≠ some hp.length ∧ ∀ b, Yh wv = some b → Yh q ≠ some b := by
      obtain ⟨bq, cq, e1, e2, e3⟩ := R.sl.blk R.ne
      refine ⟨fun hc => ?_, fun b hb hc => ?_⟩
      · rw [e1] at hc; cases hc
        rw [g5] at e2; cases e2
      · rw [e1] at hc; cases hc
        obtain ⟨ys, e4⟩ := how.ints hb
        rw [e4] at e2; cases e2
    by_cases hiin : (i : Int) < l.length
    · have hi' : i < l.length := by omega
      obtain ⟨tG, hvG⟩ := tI G hEG
      obtain ⟨⟨x, y⟩, hxy⟩ : ∃ p, l.getD i (0, 0) = p := ⟨_, rfl⟩
      have hb := hok i hi'
      rw [hxy] at hb
      simp only [okB, Bool.and_eq_true, decide_eq_true_eq] at hb
      obtain ⟨e, he⟩ : ∃ e : Nat, x = e := ⟨x.toNat, by omega⟩
      subst he
      have hee : e < 2 ^ n := by
        have := hb.2.1
        exact_mod_cast this
      refine Ze fun N16 hN16 => ?_
      simp (maxSteps := 2000000) only [↓Za, ↓Zb, ↓Zd, vup, cond_true, cond_false, aop, Zf, ev, sput, Zg, Yb, Yd, Nat.reduceBEq, hiin]
      refine hN16 [(1, .pointer (some ⟨h.length, 0, none⟩)), (2, .slice none 0 0), (3, out), (4, Zc (s : Nat)), (5, .pointer (some ⟨hp.length, 0, none⟩)), (7, .func (.func 100) #[] #[.pointer (some ⟨hp.length, 0, none⟩)]), (8, q), (26, .bool false), (48, v), (49, Zc l.length), (50, Zc (i : Nat)), (51, .bool true)] _ _ ?_ (by simp (maxSteps := 2000000) only [vup, cond_true, cond_false, Nat.reduceBEq])
      clear hN16
      try clear N16
      refine Ze fun N17 hN17 => ?_
      simp (maxSteps := 2000000) only [↓Zo, ↓vdn, vup, cond_true, cond_false, Zf, ev, Nat.reduceBEq]
      refine hN17 [(1, .pointer (some ⟨h.length, 0, none⟩)), (2, .slice none 0 0), (3, out), (4, Zc (s : Nat)), (5, .pointer (some ⟨hp.length, 0, none⟩)), (7, .func (.func 100) #[] #[.pointer (some ⟨hp.length, 0, none⟩)]), (8, q), (26, .bool false), (48, v), (49, Zc l.length), (50, Zc (i : Nat))] _ _ ?_ (by simp (maxSteps := 2000000) only [vup, cond_true, cond_false, Nat.reduceBEq])
      clear hN17
      try clear N17
      refine Zk fun B hB => ?_
      refine Zl ?_
      obtain ⟨G2, hG2⟩ : ∃ G2, G2 = G ++ [bB e y] := ⟨_, rfl⟩
      have c10 : G2[G.length]? = some (bB e y) := by rw [hG2]; exact Zw _ _
      have hE2 : Ext (fun _ => False) G G2 := by rw [hG2]; exact Ext.app _ _ _
      have hG2l : G2.length = G.length + 1 := by rw [hG2]; simp
      refine Ze fun N18 hN18 => ?_
      simp (maxSteps := 2000000) only [↓Za, ↓Zb, ↓Zd, vup, cond_true, cond_false, aop, Zf, ev, sput, Zg, Nat.reduceBEq, tyf, hvG.idx el_30 esz_92 hi', hvG.load shp_92 hi', hxy, Xm, Yq, storeBt (Zw G zB) rfl, Wb]
      rw [← hG2]
      refine hN18 [(1, .pointer (some ⟨h.length, 0, none⟩)), (2, .slice none 0 0), (3, out), (4, Zc (s : Nat)), (5, .pointer (some ⟨hp.length, 0, none⟩)), (7, .func (.func 100) #[] #[.pointer (some ⟨hp.length, 0, none⟩)]), (8, q), (10, .pointer (some ⟨G.length, 0, none⟩)), (26, .bool false), (48, v), (49, Zc l.length), (50, Zc (i : Nat))] _ _ ?_ (by simp (maxSteps := 2000000) only [vup, cond_true, cond_false, Nat.reduceBEq])
      clear hN18
      try clear N18
      refine Zi ?_
      simp only [q60_17]
      refine Xg [(6, 1), (7, 4)] (by kernel_rfl) (by kernel_rfl) (by kernel_rfl) (by kernel_rfl) ?_
      simp (maxSteps := 2000000) only [↓Yc, ↓vdn, vup, List.map_cons, List.map_nil, cond_true, cond_false, aop, Zf, Zm, ev, sput, Zg, Zj, Nat.reduceBEq, Nat.reduceAdd, bA0, bA1, loadB0 c10, loadB1 c10, Yr, List.nil_append, List.append_nil, List.cons_append]
      refine ⟨_, _, (show Xc prog 64 [Zc y, Zc 12] G2 (qV (Rat.divInt y 12)) from frac_call (by decide) (by omega) (by decide)), rfl, ?_⟩
      refine (row_call (q := Rat.divInt y 12) ((hE2.2 _ (Xa g5) id).trans g5) (how.ext (S := fun _ => False) hE2 (fun _ _ => id)).int (by omega) (show e < 9223372036854775808 by omega)).mono ?_
      rintro rv G3 ⟨x1, x2, x3⟩
      have x2' : OwnP 26 G3 rv (rowC T W.length ws.length) := by
        rw [hwsl, hT, rowC_bet, hxy]; exact x2
      obtain ⟨bb, yy, hrv, -⟩ := Wd x2' Vv
      have lit0 : ∀ K : Value → Zh → Prop, Yp prog G3 103 1 [(0, rv)] K = K (.slice (some ⟨G3.length, 0, none⟩) 1 1) (G3 ++ [.cells [rv] 47 false]) := fun K => by rw [hrv]; exact litV el_103 zero_47 esz_47
      simp (maxSteps := 2000000) only [lit0]
      have hE34 : Ext (fun _ => False) G (G3 ++ [.cells [rv] 47 false]) := hE2.trans (x1.trans (Ext.app _ _ _))
      refine R.more (by omega) (by have := hEG.1; omega) hE34 (x2'.ext (Ext.app _ _ _)) (fun b hb => by have := x3 b hb; omega) (Zw _ _) fun q' h' ho' R' hEa hEb => ?_
      have keep : ∀ b, b < G.length → Yh q ≠ some b → h'[b]? = G[b]? := fun b hb hne => by
        rw [hEb.2 b (by have := hE34.1; omega) hne]; exact hE34.2 b hb id
      have hEh : Ext (fun _ => False) hp h' := by
        refine ⟨by have := hEG.1; have := hE34.1; have := hEa.1; omega, fun z hz _ => ?_⟩
        rw [hEa.2 z (by have := hEG.1; have := hE34.1; omega) (by omega), hE34.2 z (by have := hEG.1; omega) id]
        exact hEG.2 z hz id
      have g5' : h'[hp.length]? = some (.cells [wv] 38 false) := by rw [keep _ (Xa g5) sepq.1]; exact g5
      have how' : OwnSl 3 h' wv (Vf W) := how.same fun b hb => keep b (how.lt hb) (sepq.2 b hb)
      refine hB [(1, .pointer (some ⟨h.length, 0, none⟩)), (2, .slice none 0 0), (3, out), (4, Zc (s : Nat)), (5, .pointer (some ⟨hp.length, 0, none⟩)), (7, .func (.func 100) #[] #[.pointer (some ⟨hp.length, 0, none⟩)]), (8, q'), (26, .bool false), (48, v), (49, Zc l.length), (50, Zc (i : Nat))] _ _ ?_ (by simp (maxSteps := 2000000) only [vup, cond_true, cond_false, Nat.reduceBEq])
      clear hB
      try clear B
      refine Zi ?_
      simp (maxSteps := 2000000) only [↓Za, ↓Zb, ↓Zd, vup, cond_true, cond_false, aop, ev, sput, Zg, Yb, Yd, Nat.reduceBEq, add1 (show i < 9223372036854775807 by omega)]
      exact hQb _ _ _ ⟨(i + 1, q', ws ++ [rv], h'), ⟨hi', by simp [hwsl], R', fun _ => ho', hEh, g5', how'⟩, by simp only; omega, by simp (maxSteps := 2000000) only [vup, cond_true, cond_false, Nat.reduceBEq], rfl⟩
    have hil := Vw hiin hi
    subst hil
    refine Ze fun N19 hN19 => ?_
    simp (maxSteps := 2000000) only [↓Za, ↓Zb, ↓Zd, vup, cond_true, cond_false, aop, Zf, ev, sput, Zg, Yb, Yd, Nat.reduceBEq, hiin]
    refine hN19 [(1, .pointer (some ⟨h.length, 0, none⟩)), (2, .slice none 0 0), (3, out), (4, Zc (s : Nat)), (5, .pointer (some ⟨hp.length, 0, none⟩)), (7, .func (.func 100) #[] #[.pointer (some ⟨hp.length, 0, none⟩)]), (8, q), (26, .bool false), (48, v), (49, Zc l.length), (50, Zc (l.length : Nat)), (51, .bool false)] _ _ ?_ (by simp (maxSteps := 2000000) only [vup, cond_true, cond_false, Nat.reduceBEq])
    clear hN19
    try clear N19
    refine Ze fun N20 hN20 => ?_
    simp (maxSteps := 2000000) only [↓Yo, ↓vdn, vup, cond_true, cond_false, Zf, ev, Nat.reduceBEq]
    refine hQb _ _ _ (hQa _ _ _ ?_)
    simp (maxSteps := 2000000) only [Zf, Zm, if_true]
    refine hX [(1, .pointer (some ⟨h.length, 0, none⟩)), (2, .slice none 0 0), (3, out), (4, Zc (s : Nat)), (5, .pointer (some ⟨hp.length, 0, none⟩)), (7, .func (.func 100) #[] #[.pointer (some ⟨hp.length, 0, none⟩)]), (8, q), (26, .bool false), (51, .bool false)] _ _ ?_ (by simp (maxSteps := 2000000) only [vup, cond_true, cond_false, Nat.reduceBEq])
    clear hX
    try clear X
    have ho := hOwn hl1
    obtain ⟨B, C, hqe, hBC, hBp, M, hbkp⟩ := R.mat ho
    rw [hwsl] at hqe hBC M hbkp
    -- it is solved
    have hli : (Vf W).length = W.length := castI_len W
    have hsolve := solve_call M hBC (by omega) (by omega) hW1 (by omega) htm
    refine Ze fun N21 hN21 => ?_
    simp (maxSteps := 2000000) only [↓Za, ↓Zb, ↓Zd, vup, List.map_cons, List.map_nil, cond_true, cond_false, aop, Zf, ev, sput, Zg, Zj, Nat.reduceBEq, tyf, load1 g5 shp_38, how.int.len, hli, hqe, Yr, List.nil_append, List.append_nil]
    refine hsolve.mono ?_
    rintro r G' ⟨hEs, x, ok, rfl, hres⟩
    simp (maxSteps := 2000000) only [extr_20, extr_21]
    refine hN21 [(1, .pointer (some ⟨h.length, 0, none⟩)), (2, .slice none 0 0), (3, out), (4, Zc (s : Nat)), (5, .pointer (some ⟨hp.length, 0, none⟩)), (7, .func (.func 100) #[] #[.pointer (some ⟨hp.length, 0, none⟩)]), (11, x), (12, .bool ok), (26, .bool false), (51, .bool false)] _ _ ?_ (by simp (maxSteps := 2000000) only [vup, cond_true, cond_false, Nat.reduceBEq])
    clear hN21
    try clear N21
    have hBk : ∀ b, Tch B (l.length + 1) (fun i => bkOf (ws.getD i undef)) b → hp.length ≤ b ∧ b ≠ hp.length ∧ ∀ b', Yh wv = some b' → b ≠ b' := fun b hb => by
      rcases hb with rfl | ⟨j, hj, rfl⟩
      · obtain ⟨us, e2⟩ := M.outer
        refine ⟨hBp, fun hc => ?_, fun b' hb' hc => ?_⟩
        · rw [← hc, e2] at g5
          exact absurd (Blk.cells.inj (Option.some.inj g5)).2.1 (by decide)
        · obtain ⟨ys, e4⟩ := how.ints hb'
          rw [← hc, e2] at e4; cases e4
      · obtain ⟨cc, xs, e1, e3, e2⟩ := M.row j hj
        refine ⟨hbkp j hj, fun hc => ?_, fun b' hb' hc => ?_⟩
        · have e2' : G[bkOf (ws.getD j undef)]? = _ := e2
          have hc' : bkOf (ws.getD j undef) = hp.length := hc
          rw [hc', g5] at e2'; cases e2'
        · obtain ⟨ys, e4⟩ := how.ints hb'
          have e2' : G[bkOf (ws.getD j undef)]? = _ := e2
          have hc' : bkOf (ws.getD j undef) = b' := hc
          rw [hc', e4] at e2'; cases e2'
    have hEG' : Ext (fun _ => False) hp G' := by
      refine ⟨by have := hEG.1; have := hEs.1; omega, fun z hz _ => ?_⟩
      rw [hEs.2 z (by have := hEG.1; omega) (fun hc => by have := (hBk z hc).1; omega)]
      exact hEG.2 z hz id
    have g5' : G'[hp.length]? = some (.cells [wv] 38 false) := by
      rw [hEs.2 _ (Xa g5) (fun hc => (hBk _ hc).2.1 rfl)]; exact g5
    have how' : OwnSl 3 G' wv (Vf W) := how.same fun b hb => hEs.2 b (how.lt hb) (fun hc => (hBk _ hc).2.2 b hb rfl)
    have hlen' : G.length ≤ G'.length := hEs.1
    clear hQa hQb M R hOwn sepq ho hsolve hBk hEs hqe g50 how0 hE0 R0 hlen'
    -- the next set
    have goOn : ∀ e out' G2, CornSl G2 out' (Xq n l s) → Ext (fun _ => False) H G2 → (∀ b, Yh out' = some b → H.length ≤ b) → ELe e [(1, .pointer (some ⟨h.length, 0, none⟩)), (2, .slice none 0 0), (3, out'), (4, Zc (s : Nat)), (26, .bool false), (51, .bool false)] → Y e G2 := by
      intro e out' G2 c1 c2 c3 he
      refine hY _ _ _ ?_ he
      refine Zi ?_
      have ea : addV .i64 (s : Int) 1 = ((s + 1 : Nat) : Int) := add1 (by omega)
      simp (maxSteps := 2000000) only [↓Za, ↓Zb, ↓Zd, vup, cond_true, cond_false, aop, ev, sput, Zg, Yb, Yd, Nat.reduceBEq, ea]
      exact hQ2 _ _ _ ⟨(s + 1, out', G2), ⟨by simp only; omega, by simp only; omega, by simpa using c1, c2, c3⟩, by simp only; omega, by simp (maxSteps := 2000000) only [vup, cond_true, cond_false, Nat.reduceBEq], rfl⟩
    have hcsucc : Xq n l s = Xq n l (s - 1) ++ (Wg n l s).toList := by
      obtain ⟨s', rfl⟩ : ∃ s', s = s' + 1 := ⟨s - 1, by omega⟩
      rw [Xq]; simp
    have skip : Wg n l s = none → ∀ e, ELe e [(1, .pointer (some ⟨h.length, 0, none⟩)), (2, .slice none 0 0), (3, out), (4, Zc (s : Nat)), (26, .bool false), (51, .bool false)] → Y e G' := fun h0 e he => goOn e out G' (by rw [hcsucc, h0]; simpa using hcs.ext hEG') (hEp.trans hEG') hbo he
    cases hsol : Xn (l.length + 1) W.length T with
    | none =>
      rw [hsol] at hres hcorner
      simp only at hres
      obtain ⟨rfl, rfl⟩ := hres
      refine Zi ?_
      simp (maxSteps := 2000000) only [↓Za, ↓Zr, ↓Yo, ↓Zb, ↓Zd, ↓vdn, vup, cond_true, cond_false, aop, Zf, Zm, ev, sput, Zg, unK, Nat.reduceBEq]
      exact skip hcorner _ (by simp (maxSteps := 2000000) only [vup, cond_true, cond_false, Nat.reduceBEq])
    | some xs =>
      rw [hsol, Option.bind_some] at hcorner
      rw [hsol] at hres
      simp only at hres
      obtain ⟨rfl, hox, hbx⟩ := hres
      have hxl : xs.length = W.length := solveT_len hsol
      have hany : ((xs.map ofQ).any fun p => decide (p.1 < 0)) = xs.any fun q => decide (q < 0) := by
        rw [List.any_map]
        congr 1
        funext q
        refine decide_eq_decide.2 ?_
        show q.num < 0 ↔ q < 0
        rw [← Rat.not_le, ← Rat.num_nonneg]; omega
      have hneg := hasF_call (g := 102) (cap := #[]) (f := fun p => decide (p.1 < 0)) hox.pair (by simp; omega) (fun h' hx p hp => neg_call)
      rw [hany] at hneg
      refine Zk fun X hX => ?_
      refine Ze fun N22 hN22 => ?_
      simp (maxSteps := 2000000) only [↓Za, ↓Zb, ↓Zd, ↓vdn, vup, List.map_cons, List.map_nil, cond_true, cond_false, aop, Zf, ev, sput, Zg, unK, Nat.reduceBEq, Yr, List.nil_append, List.append_nil]
      refine hneg.mono ?_
      rintro _ G' ⟨rfl, rfl⟩
      refine hN22 [(1, .pointer (some ⟨h.length, 0, none⟩)), (2, .slice none 0 0), (3, out), (4, Zc (s : Nat)), (5, .pointer (some ⟨hp.length, 0, none⟩)), (7, .func (.func 100) #[] #[.pointer (some ⟨hp.length, 0, none⟩)]), (11, x), (12, .bool true), (26, .bool false), (51, .bool false), (77, .bool (xs.any fun q => decide (q < 0)))] _ _ ?_ (by simp (maxSteps := 2000000) only [vup, cond_true, cond_false, Nat.reduceBEq])
      clear hN22
      try clear N22
      cases hn : xs.any fun q => decide (q < 0) with
      | true =>
        rw [hn, if_pos rfl] at hcorner
        refine Xj rfl ?_
        refine Zi ?_
        simp (maxSteps := 2000000) only [↓Yo, Zf, Zm]
        exact skip hcorner _ (by simp (maxSteps := 2000000) only [vup, cond_true, cond_false, Nat.reduceBEq])
      | false =>
        rw [hn, if_neg (by decide)] at hcorner
        refine Yu rfl ?_
        refine Zi ?_
        simp (maxSteps := 2000000) only [↓Zo, Zf]
        refine hX [(1, .pointer (some ⟨h.length, 0, none⟩)), (2, .slice none 0 0), (3, out), (4, Zc (s : Nat)), (5, .pointer (some ⟨hp.length, 0, none⟩)), (7, .func (.func 100) #[] #[.pointer (some ⟨hp.length, 0, none⟩)]), (11, x), (26, .bool false), (51, .bool false)] _ _ ?_ (by simp (maxSteps := 2000000) only [vup, cond_true, cond_false, Nat.reduceBEq])
        clear hX
        try clear X
        obtain ⟨tG, -⟩ := tI G' hEG'
        -- the belief
        obtain ⟨F, hF⟩ : ∃ F : Nat → Zh, F = fun k => G' ++ [.ints [0, 1] 26 false] ++ [.cells ((Yk ((Xk n W xs k).map ofQ)).map Zc) 26 false] := ⟨_, rfl⟩
        have hF0 : ∀ k, (F k)[G'.length + 1]? = some (.cells ((Yk ((Xk n W xs k).map ofQ)).map Zc) 26 false) := fun k => by rw [hF]; exact b2_1 ..
        have hFE : ∀ k, Ext (fun _ => False) G' (F k) := fun k => by rw [hF]; exact e2 ..
        have hFs : ∀ k, (F k).set (G'.length + 1) (.cells ((Yk ((Xk n W xs (k + 1)).map ofQ)).map Zc) 26 false) = F (k + 1) := fun k => by
          simp only [hF]
          rw [show G'.length + 1 = (G' ++ [Blk.ints [0, 1] 26 false]).length by simp, Wb]
        have hFl : ∀ k, (F k).length = G'.length + 2 := fun k => by rw [hF]; simp
        have hF1 : G' ++ [.ints [0, 1] 26 false] ++ [.cells ((Yk (List.replicate n ((0 : Int), (1 : Int)))).map Zc) 26 false] = F 0 := by
          rw [hF]; simp only [Xk, List.map_replicate]; rfl
        have rep := repeat_call (h := G' ++ [.ints [0, 1] 26 false]) (b0 := G'.length) (x := 0) (y := 1) (Zw _ _) (show 1 ≤ n by omega) (show n < 6 by omega)
        rw [hF1, List.length_append, List.length_singleton] at rep
        have q0 : qV ((0 : Int) : Rat) = .agg #[Zc 0, Zc 1] := rfl
        refine Ze fun N23 hN23 => ?_
        simp only [q60_21]
        refine aw_drawR (fun z => z[h.length]? = some (Blk.cells [Zc (n : Nat), v] 86 false)) [(0, 1), (3, 5)] (by kernel_rfl) (by kernel_rfl) (by kernel_rfl) (by kernel_rfl) tG ?_
        simp (maxSteps := 2000000) only [↓dopsR_nil, ↓vdn, vup, List.map_cons, List.map_nil, cond_true, cond_false, aop, Zf, ev, sput, Zg, Nat.reduceBEq, Nat.reduceAdd, Yr, List.nil_append, List.append_nil]
        refine ⟨_, _, (show Xc prog 70 [Zc 0] G' (qV ((0 : Int) : Rat)) from whole_call), rfl, ?_⟩
        simp (maxSteps := 2000000) only [q0, litF, tA0]
        refine ⟨Xy tG _, Zc (n : Nat), fun z hz => by simp only [loadT0 hz], _, _, rep, (hFE 0).2 _ (Xa tG) id |>.trans tG, ?_⟩
        refine hN23 [(1, .pointer (some ⟨h.length, 0, none⟩)), (2, .slice none 0 0), (3, out), (4, Zc (s : Nat)), (5, .pointer (some ⟨hp.length, 0, none⟩)), (7, .func (.func 100) #[] #[.pointer (some ⟨hp.length, 0, none⟩)]), (11, x), (13, .slice (some ⟨G'.length + 1, 0, none⟩) n n), (26, .bool false), (51, .bool false)] _ _ ?_ (by simp (maxSteps := 2000000) only [vup, cond_true, cond_false, Nat.reduceBEq])
        clear hN23
        try clear N23
        have g5F : ∀ k, (F k)[hp.length]? = some (.cells [wv] 38 false) := fun k => ((hFE k).2 _ (Xa g5') id).trans g5'
        have howF : ∀ k, OwnSl 3 (F k) wv (Vf W) := fun k => how'.ext (S := fun _ => False) (hFE k) (fun _ _ => id)
        refine Zk fun U hU => ?_
        refine Ze fun N24 hN24 => ?_
        simp (maxSteps := 2000000) only [↓Za, ↓Zb, ↓Zd, vup, List.map_cons, List.map_nil, cond_true, cond_false, aop, Zf, ev, sput, Zg, Zj, Nat.reduceBEq, tyf, load1 (g5F 0) shp_38, (howF 0).int.len, hli]
        refine hN24 [(1, .pointer (some ⟨h.length, 0, none⟩)), (2, .slice none 0 0), (3, out), (4, Zc (s : Nat)), (5, .pointer (some ⟨hp.length, 0, none⟩)), (7, .func (.func 100) #[] #[.pointer (some ⟨hp.length, 0, none⟩)]), (11, x), (13, .slice (some ⟨G'.length + 1, 0, none⟩) n n), (26, .bool false), (51, .bool false), (83, wv), (84, Zc (W.length : Nat)), (85, .int .i64 0)] _ _ ?_ (by simp (maxSteps := 2000000) only [vup, cond_true, cond_false, Nat.reduceBEq])
        clear hN24
        try clear N24
        refine Zl ?_
        refine Zn fun Qa hQa => ?_
        refine Yj (γ := Nat) (fun k => k ≤ W.length) (fun k => ([(1, .pointer (some ⟨h.length, 0, none⟩)), (2, .slice none 0 0), (3, out), (4, Zc (s : Nat)), (5, .pointer (some ⟨hp.length, 0, none⟩)), (7, .func (.func 100) #[] #[.pointer (some ⟨hp.length, 0, none⟩)]), (11, x), (13, .slice (some ⟨G'.length + 1, 0, none⟩) n n), (26, .bool false), (51, .bool false), (83, wv), (84, Zc (W.length : Nat)), (85, Zc (k : Nat))], F k)) (fun k => W.length - k) 0 (Nat.zero_le _) (by simp (maxSteps := 2000000) only [vup, cond_true, cond_false, Nat.reduceBEq, Int.natCast_zero]) rfl ?_
        rintro k hk
        refine Zn fun Qb hQb => ?_
        simp only [l60_2]
        by_cases hkin : (k : Int) < W.length
        · have hk' : k < W.length := by omega
          have hkc : k < (Vf W).length := by omega
          have hw : W.getD k 0 < n := hWlt _ (by rw [List.getD, List.getElem?_eq_getElem hk']; exact List.getElem_mem hk')
          have hxF := (hox.ext (hFE k)).pair
          have hkx : k < (xs.map ofQ).length := by rw [List.length_map]; omega
          have hgx : (xs.map ofQ).getD k (0, 0) = ofQ (xs.getD k 0) := by
            rw [List.getD, List.getElem?_map, List.getElem?_eq_getElem (show k < xs.length by omega), List.getD, List.getElem?_eq_getElem (show k < xs.length by omega)]; rfl
          have hslen : ((Xk n W xs k).map ofQ).length = n := by rw [List.length_map, Ws]
          have pF := Vt (hF0 k)
          rw [hslen] at pF
          have hidx : ∀ K : Value → Prop, Yx prog 90 (.slice (some ⟨G'.length + 1, 0, none⟩) n n) (Zc (W.getD k 0 : Nat)) K = K (.pointer (some ⟨G'.length + 1, W.getD k 0 * 2, none⟩)) := fun K => by
            rw [pF.idx el_90 Wr (by rw [hslen]; exact hw), elemP_pair]
          have hst : ∀ K : Zh → Prop, Xx prog (F k) 26 (.pointer (some ⟨G'.length + 1, W.getD k 0 * 2, none⟩)) (.agg #[Zc (xs.getD k 0).num, Zc ((xs.getD k 0).den : Int)]) K = K (F (k + 1)) := fun K => by
            rw [storePC (hF0 k) Vu (by rw [hslen]; exact hw), ← hFs k, Xk, List.map_set]; rfl
          refine Ze fun N25 hN25 => ?_
          simp (maxSteps := 2000000) only [↓Za, ↓Zb, ↓Zd, vup, cond_true, cond_false, aop, Zf, ev, sput, Zg, Yb, Yd, Nat.reduceBEq, hkin]
          refine hN25 [(1, .pointer (some ⟨h.length, 0, none⟩)), (2, .slice none 0 0), (3, out), (4, Zc (s : Nat)), (5, .pointer (some ⟨hp.length, 0, none⟩)), (7, .func (.func 100) #[] #[.pointer (some ⟨hp.length, 0, none⟩)]), (11, x), (13, .slice (some ⟨G'.length + 1, 0, none⟩) n n), (26, .bool false), (51, .bool false), (83, wv), (84, Zc (W.length : Nat)), (85, Zc (k : Nat)), (86, .bool true)] _ _ ?_ (by simp (maxSteps := 2000000) only [vup, cond_true, cond_false, Nat.reduceBEq])
          clear hN25
          try clear N25
          refine Ze fun N26 hN26 => ?_
          simp (maxSteps := 2000000) only [↓Zo, ↓vdn, vup, cond_true, cond_false, Zf, ev, Nat.reduceBEq]
          refine hN26 [(1, .pointer (some ⟨h.length, 0, none⟩)), (2, .slice none 0 0), (3, out), (4, Zc (s : Nat)), (5, .pointer (some ⟨hp.length, 0, none⟩)), (7, .func (.func 100) #[] #[.pointer (some ⟨hp.length, 0, none⟩)]), (11, x), (13, .slice (some ⟨G'.length + 1, 0, none⟩) n n), (26, .bool false), (51, .bool false), (83, wv), (84, Zc (W.length : Nat)), (85, Zc (k : Nat))] _ _ ?_ (by simp (maxSteps := 2000000) only [vup, cond_true, cond_false, Nat.reduceBEq])
          clear hN26
          try clear N26
          refine Zk fun B hB => ?_
          refine Zl ?_
          refine Ze fun N27 hN27 => ?_
          simp (maxSteps := 2000000) only [↓Za, ↓Zb, ↓Zd, vup, cond_true, cond_false, aop, Zf, ev, sput, Zg, Nat.reduceBEq, (howF k).int.idx el_38 esz_3 hkc, (howF k).int.load shp_3 hkc, castI_getD]
          refine hN27 [(1, .pointer (some ⟨h.length, 0, none⟩)), (2, .slice none 0 0), (3, out), (4, Zc (s : Nat)), (5, .pointer (some ⟨hp.length, 0, none⟩)), (7, .func (.func 100) #[] #[.pointer (some ⟨hp.length, 0, none⟩)]), (11, x), (13, .slice (some ⟨G'.length + 1, 0, none⟩) n n), (14, Zc (k : Nat)), (15, Zc (W.getD k 0 : Nat)), (26, .bool false), (51, .bool false), (83, wv), (84, Zc (W.length : Nat)), (85, Zc (k : Nat))] _ _ ?_ (by simp (maxSteps := 2000000) only [vup, cond_true, cond_false, Nat.reduceBEq])
          clear hN27
          try clear N27
          refine Zi ?_
          simp (maxSteps := 2000000) only [↓Za, ↓Zb, ↓Zd, vup, cond_true, cond_false, aop, Zf, Zm, ev, sput, Zg, Nat.reduceBEq, hxF.idx el_47 Wr hkx, hxF.load Vu hkx, hgx, hidx, ofQ, hst]
          refine hB [(1, .pointer (some ⟨h.length, 0, none⟩)), (2, .slice none 0 0), (3, out), (4, Zc (s : Nat)), (5, .pointer (some ⟨hp.length, 0, none⟩)), (7, .func (.func 100) #[] #[.pointer (some ⟨hp.length, 0, none⟩)]), (11, x), (13, .slice (some ⟨G'.length + 1, 0, none⟩) n n), (26, .bool false), (51, .bool false), (83, wv), (84, Zc (W.length : Nat)), (85, Zc (k : Nat))] _ _ ?_ (by simp (maxSteps := 2000000) only [vup, cond_true, cond_false, Nat.reduceBEq])
          clear hB
          try clear B
          refine Zi ?_
          simp (maxSteps := 2000000) only [↓Za, ↓Zb, ↓Zd, vup, cond_true, cond_false, aop, ev, sput, Zg, Yb, Yd, Nat.reduceBEq, add1 (show k < 9223372036854775807 by omega)]
          exact hQb _ _ _ ⟨k + 1, hk', by omega, by simp (maxSteps := 2000000) only [vup, cond_true, cond_false, Nat.reduceBEq], rfl⟩
        have hkk := Vw hkin hk
        subst hkk
        refine Ze fun N28 hN28 => ?_
        simp (maxSteps := 2000000) only [↓Za, ↓Zb, ↓Zd, vup, cond_true, cond_false, aop, Zf, ev, sput, Zg, Yb, Yd, Nat.reduceBEq, hkin]
        refine hN28 [(1, .pointer (some ⟨h.length, 0, none⟩)), (2, .slice none 0 0), (3, out), (4, Zc (s : Nat)), (5, .pointer (some ⟨hp.length, 0, none⟩)), (7, .func (.func 100) #[] #[.pointer (some ⟨hp.length, 0, none⟩)]), (11, x), (13, .slice (some ⟨G'.length + 1, 0, none⟩) n n), (26, .bool false), (51, .bool false), (83, wv), (84, Zc (W.length : Nat)), (85, Zc (W.length : Nat)), (86, .bool false)] _ _ ?_ (by simp (maxSteps := 2000000) only [vup, cond_true, cond_false, Nat.reduceBEq])
        clear hN28
        try clear N28
        refine Ze fun N29 hN29 => ?_
        simp (maxSteps := 2000000) only [↓Yo, ↓vdn, vup, cond_true, cond_false, Zf, ev, Nat.reduceBEq]
        refine hQb _ _ _ (hQa _ _ _ ?_)
        simp (maxSteps := 2000000) only [Zf, Zm, if_true]
        refine hU [(1, .pointer (some ⟨h.length, 0, none⟩)), (2, .slice none 0 0), (3, out), (4, Zc (s : Nat)), (5, .pointer (some ⟨hp.length, 0, none⟩)), (7, .func (.func 100) #[] #[.pointer (some ⟨hp.length, 0, none⟩)]), (11, x), (13, .slice (some ⟨G'.length + 1, 0, none⟩) n n), (26, .bool false), (51, .bool false), (86, .bool false)] _ _ ?_ (by simp (maxSteps := 2000000) only [vup, cond_true, cond_false, Nat.reduceBEq])
        clear hU
        try clear U
        -- it is noted
        have hcF := (hcs.ext (hEG'.trans (hFE W.length)))
        obtain ⟨us, hou, heach⟩ := hcF
        have hlen3 := heach.len
        have hcl := cornersTo_len n l (s - 1)
        refine Zi ?_
        simp (maxSteps := 2000000) only [↓Za, ↓Zb, ↓Zd, vup, List.map_cons, List.map_nil, cond_true, cond_false, aop, Zf, Zm, ev, sput, Zg, Zj, Nat.reduceBEq, litV el_88 zero_90 esz_90]
        refine OwnV.app (us := [.slice (some ⟨G'.length + 1, 0, none⟩) n n]) (hou.ext (Ext.app _ _ _)) app_88_88 (.inr ⟨(F W.length).length, 0, none, 1, [.slice (some ⟨G'.length + 1, 0, none⟩) n n], 90, false, rfl, Nat.le_refl _, by simp [view, Blk.view], rfl⟩) (fun w hw => ?_) (by simp; omega) ?_
        · rcases List.mem_append.1 hw with h1 | h1
          · obtain ⟨b, bl, rfl, _⟩ := heach.mem w h1
            exact ⟨rfl, rfl⟩
          · rw [List.mem_singleton.1 h1]; exact ⟨rfl, rfl⟩
        · intro out' G3 ho3 hE3 hb3
          have hol : ∀ b, Yh out = some b → b < (F W.length).length := fun b hb => hou.lt hb
          have hHF := hEp.trans (hEG'.trans (hFE W.length))
          have hFk : Ext (fun _ => False) H G3 := ext_app hHF (H' := F W.length ++ [Blk.cells [.slice (some ⟨G'.length + 1, 0, none⟩) n n] 90 false]) (by simp) (fun z hz => List.getElem?_append_left (by have := hHF.1; omega)) hbo hE3
          have keep : ∀ bl c, (F W.length)[bl]? = some (Blk.cells c 26 false) → G3[bl]? = some (Blk.cells c 26 false) := fun bl c hbl => by
            have hlt := Xa hbl
            rw [hE3.2 bl (by rw [List.length_append]; omega) (fun hc => ?_), List.getElem?_append_left hlt, hbl]
            obtain ⟨c', hc'⟩ := hou.blk hc
            rw [hbl] at hc'
            exact absurd (Blk.cells.inj (Option.some.inj hc')).2.1 (by decide)
          refine goOn _ out' G3 ⟨us ++ [.slice (some ⟨G'.length + 1, 0, none⟩) n n], ho3, ?_⟩ hFk (fun b hb => ?_) (by simp (maxSteps := 2000000) only [vup, cond_true, cond_false, Nat.reduceBEq])
          · rw [hcsucc, hcorner]
            refine Each.app (heach.imp fun w b ⟨bl, q1, q2⟩ => ⟨bl, q1, keep bl _ q2⟩) ⟨⟨G'.length + 1, by rw [Ws], keep _ _ (hF0 _)⟩, trivial⟩
          · rcases hb3 with h1 | ⟨b', h1, h2⟩
            · exact hbo b (h1 ▸ hb)
            · rw [h1] at hb; cases hb
              rw [List.length_append] at h2
              have := hHF.1; omega
  · have hss := Vw hin hs
    subst hss
    refine Ze fun N30 hN30 => ?_
    simp (maxSteps := 2000000) only [↓Za, ↓Zr, ↓Yo, ↓Zb, ↓Zd, ↓vdn, vup, cond_true, cond_false, aop, Zf, ev, sput, Zg, Yb, Yd, Nat.reduceBEq, tyf, tA0, loadT0 t1p, Int.natCast_nonneg, hsh, hin]
    refine hQ2 _ _ _ (hQ _ _ _ ?_)
    simp (maxSteps := 2000000) only [Zf, Zm, Zs, if_true]
    refine hZ [(1, .pointer (some ⟨h.length, 0, none⟩)), (2, .slice none 0 0), (3, out), (4, Zc (2 ^ n : Nat))] _ _ ?_ (by simp (maxSteps := 2000000) only [vup, cond_true, cond_false, Nat.reduceBEq])
    clear hZ
    try clear Z
    refine Zi ?_
    simp (maxSteps := 2000000) only [↓Za, ↓Zr, ↓Zv, ↓Zb, ↓Zd, vup, cond_true, cond_false, aop, Zf, ev, sput, Zg, Nat.reduceBEq, Zs, Xw, tup]
    exact ⟨hE.trans hEp, hcs, fun b hb => by have := hbo b hb; omega⟩
end Go.Proofs.Try.Am

namespace Go.Proofs.Try.Am
open Go.Am
set_option maxRecDepth 100000
end Go.Proofs.Try.Am

namespace Go.Proofs.Try.Am
open Go.Am
set_option maxRecDepth 100000
end Go.Proofs.Try.Am

namespace Go.Proofs.Try.Am
open Go.Am
set_option maxRecDepth 100000
set_option maxHeartbeats 1000000

theorem cloneF_call [Tabs prog] {h : Zh} {v : Value} {ps : List (Int × Int)} (hv : PairSl h v ps) (hl : ps.length < 1099511627776) : ACall prog 57 [v] h fun r h' => PairSl h' r ps ∧ Ext (fun _ => False) h h' := by
  refine s57_call (by simp) ?_
  have hv' := hv
  rcases hv with ⟨rfl, rfl⟩ | ⟨b, o, sp, cap, c, e, ro, rfl, hc, hb, hx⟩
  · simp (maxSteps := 2000000) only [s57, ↓Za, ↓Zr, ↓Zv, ↓Zb, ↓Zd, ↓vdn, vup, cond_true, cond_false, aop, Zf, Zp, ev, sput, Zg, Yb, Nat.reduceBEq, Zs, Xw, tup, tyf, Option.isSome_some]
    exact ⟨.inl ⟨rfl, rfl⟩, Ext.refl _ _⟩
  · simp (maxSteps := 2000000) only [s57, ↓Za, ↓Zo, ↓Zr, ↓Zv, ↓Zb, ↓Zd, ↓vdn, vup, List.map_cons, List.map_nil, cond_true, cond_false, aop, Zf, Zp, ev, sput, Zg, Yb, Zj, Nat.reduceBEq, Zs, Xw, tup, tyf, Option.isSome_some]
    simp only [Yp, el_47, zero_26, Wr, reps, fillL, mkb, Xl]
    refine And.intro rfl (And.intro (by decide) (And.intro (Nat.zero_le _) ?_))
    refine (hv'.grow [.ints [] 26 false]).copy app_47_47 hl (by rw [List.getElem?_append_right (Nat.le_refl _)]; simp) ?_
    intro r g hr
    exact ⟨hr, by rw [List.append_assoc]; exact Ext.app _ _ _⟩
theorem min8 (n : Nat) : (if (8 : Int) < n then 8 else (n : Int)) = ((min n 8 : Nat) : Int) := by split <;> omega
theorem take_min {α : Type} (l : List α) (k : Nat) : l.take (min l.length k) = l.take k := by
  by_cases h : l.length ≤ k
  · rw [Nat.min_eq_left h, List.take_length, List.take_of_length_le h]
  · rw [Nat.min_eq_right (by omega)]
theorem fracs_call [Tabs prog] {h : Zh} {v : Value} {ps : List (Int × Int)} (hv : PairSl h v ps) : ACall prog 32 [v] h fun r h' => PairSl h' r (ps.take 8) ∧ Ext (fun _ => False) h h' := by
  refine s32_call (by simp) ?_
  simp (maxSteps := 2000000) only [s32, ↓Za, ↓Zr, ↓Zv, ↓Zb, ↓Zd, vup, List.map_cons, List.map_nil, cond_true, cond_false, aop, Zf, Zp, ev, sput, Zg, Zj, Nat.reduceBEq, Zs, Xw, tup, tyf, hv.len, mmK, Bool.false_eq_true, if_false, gt_iff_lt, min8, Option.map_none, Option.map_some]
  refine hv.pre el_47 Wr (Nat.min_le_left _ _) ?_
  intro v' hv'
  rw [take_min] at hv'
  simp (maxSteps := 2000000) only [Yr, List.nil_append, List.append_nil]
  exact cloneF_call hv' (by simp; omega)

theorem pairs_eq {xs ys : List (Int × Int)} (hl : xs.length = ys.length) (k : Nat) (hk : k ≤ xs.length) (h : ∀ i, i < k → xs.getD i (0, 0) = ys.getD i (0, 0)) (hk2 : k = xs.length) : xs = ys := by
  subst hk2
  apply List.ext_getElem hl
  intro i h1 h2
  have := h i h1
  rwa [List.getD, List.getD, List.getElem?_eq_getElem h1, List.getElem?_eq_getElem h2] at this

theorem s35_callW [Tabs Try.prog] {args : List Value} {h : Zh} {Q : Value → Zh → Prop} (hsz : args.length ≤ 26) (hk : AWS Try.prog 26 s35 (Zs Try.prog [.tmp 4] Q) (Zp 0 args) h) : ACall Try.prog 35 args h Q :=
  Ym Try.func35 rfl (enters_of Try.func35 (by kernel_rfl) rfl) rfl rfl (by decide) s35_strip s35_ok hsz hk
theorem equalF_call [Tabs prog] {h : Zh} {u v : Value} {xs ys : List (Int × Int)} (hu : PairSl h u xs) (hv : PairSl h v ys) (hl : xs.length < 9223372036854775808) : Xc prog 35 [u, v] h (.bool (decide (xs = ys))) := by
  refine s35_callW (by simp) ?_
  simp only [s35]
  refine Ze fun N1 hN1 => ?_
  simp (maxSteps := 2000000) only [↓Za, ↓Zb, ↓Zd, vup, cond_false, aop, Zf, Zp, ev, sput, Zg, Nat.reduceBEq, Nat.reduceAdd]
  refine hN1 [(0, u), (1, v), (4, .bool false)] _ _ ?_ (by simp (maxSteps := 2000000) only [vup, cond_true, cond_false, Nat.reduceBEq])
  clear hN1
  try clear N1
  by_cases hn : xs.length = ys.length
  · have hne : (((xs.length : Nat) : Int) != ((ys.length : Nat) : Int)) = false := by simp [hn]
    refine Ze fun N2 hN2 => ?_
    simp (maxSteps := 2000000) only [↓Za, ↓Zo, ↓Zr, ↓Zv, ↓Zb, ↓Zd, ↓vdn, vup, List.map_cons, List.map_nil, cond_true, cond_false, aop, Zf, ev, sput, Zg, Yb, Yd, Zj, Nat.reduceBEq, Zs, Xw, tup, tyf, hu.len, hv.len, hne]
    refine hN2 [(0, u), (1, v), (4, .bool false)] _ _ ?_ (by simp (maxSteps := 2000000) only [vup, cond_true, cond_false, Nat.reduceBEq])
    clear hN2
    try clear N2
    refine Zk fun Z hZ => ?_
    refine Ze fun N3 hN3 => ?_
    simp (maxSteps := 2000000) only [↓Za, ↓Zb, ↓Zd, vup, List.map_cons, List.map_nil, cond_true, cond_false, aop, Zf, ev, sput, Zg, Zj, Nat.reduceBEq, tyf, hu.len]
    refine hN3 [(0, u), (1, v), (4, .bool false), (11, u), (12, Zc xs.length), (13, .int .i64 0)] _ _ ?_ (by simp (maxSteps := 2000000) only [vup, cond_true, cond_false, Nat.reduceBEq])
    clear hN3
    try clear N3
    refine Zl ?_
    refine Zn fun Q hQ => ?_
    refine Yj (γ := Nat) (fun k => k ≤ xs.length ∧ ∀ i, i < k → xs.getD i (0, 0) = ys.getD i (0, 0))
      (fun k => ([(0, u), (1, v), (4, .bool false), (11, u), (12, Zc xs.length), (13, Zc (k : Nat))], h)) (fun k => xs.length - k) 0 ⟨Nat.zero_le _, fun i hi => by omega⟩ (by simp (maxSteps := 2000000) only [vup, cond_true, cond_false, Nat.reduceBEq, Int.natCast_zero]) rfl ?_
    rintro k ⟨hk, hall⟩
    refine Zn fun Q2 hQ2 => ?_
    simp only [l35_0]
    by_cases hin : (k : Int) < xs.length
    · have hk' : k < xs.length := by omega
      have hky : k < ys.length := by omega
      refine Ze fun N4 hN4 => ?_
      simp (maxSteps := 2000000) only [↓Za, ↓Zb, ↓Zd, vup, cond_true, cond_false, aop, Zf, ev, sput, Zg, Yb, Yd, Nat.reduceBEq, hin]
      refine hN4 [(0, u), (1, v), (4, .bool false), (11, u), (12, Zc xs.length), (13, Zc (k : Nat)), (14, .bool true)] _ _ ?_ (by simp (maxSteps := 2000000) only [vup, cond_true, cond_false, Nat.reduceBEq])
      clear hN4
      try clear N4
      refine Ze fun N5 hN5 => ?_
      simp (maxSteps := 2000000) only [↓Zo, ↓vdn, vup, cond_true, cond_false, Zf, ev, Nat.reduceBEq]
      refine hN5 [(0, u), (1, v), (4, .bool false), (11, u), (12, Zc xs.length), (13, Zc (k : Nat))] _ _ ?_ (by simp (maxSteps := 2000000) only [vup, cond_true, cond_false, Nat.reduceBEq])
      clear hN5
      try clear N5
      refine Zk fun B hB => ?_
      refine Zl ?_
      refine Ze fun N6 hN6 => ?_
      simp (maxSteps := 2000000) only [↓Za, ↓Zb, ↓Zd, vup, cond_true, cond_false, aop, Zf, ev, sput, Zg, Nat.reduceBEq]
      refine hN6 [(0, u), (1, v), (4, .bool false), (5, Zc (k : Nat)), (11, u), (12, Zc xs.length), (13, Zc (k : Nat))] _ _ ?_ (by simp (maxSteps := 2000000) only [vup, cond_true, cond_false, Nat.reduceBEq])
      clear hN6
      try clear N6
      obtain ⟨⟨x, y⟩, hxy⟩ : ∃ p, xs.getD k (0, 0) = p := ⟨_, rfl⟩
      obtain ⟨⟨z, w⟩, hzw⟩ : ∃ p, ys.getD k (0, 0) = p := ⟨_, rfl⟩
      refine Zi ?_
      simp only [q35_6]
      refine aw_cut fun D hD => ?_
      refine Xg [] (by kernel_rfl) (by kernel_rfl) (by kernel_rfl) (by kernel_rfl) ?_
      simp (maxSteps := 2000000) only [↓Yc, ↓vdn, vup, cond_true, cond_false, aop, Zf, ev, sput, Zg, Yb, Yd, Nat.reduceBEq, Nat.reduceAdd, hu.idx el_47 Wr hk', hu.load Vu hk', hv.idx el_47 Wr hky, hv.load Vu hky, hxy, hzw, Xl, Option.map_some, List.length_cons, List.length_nil, Nat.zero_add, eqF]
      refine hD _ _ ?_
      by_cases he : x = z ∧ y = w
      · obtain ⟨rfl, rfl⟩ := he
        have hb : (([x, y] : List Int) != [x, y]) = false := by simp
        simp (maxSteps := 2000000) only [↓Zo, ↓vdn, vup, cond_true, cond_false, Zf, Zm, ev, Nat.reduceBEq, hb]
        refine hB [(0, u), (1, v), (4, .bool false), (11, u), (12, Zc xs.length), (13, Zc (k : Nat))] _ _ ?_ (by simp (maxSteps := 2000000) only [vup, cond_true, cond_false, Nat.reduceBEq])
        clear hB
        try clear B
        refine Zi ?_
        simp (maxSteps := 2000000) only [↓Za, ↓Zb, ↓Zd, vup, cond_true, cond_false, aop, ev, sput, Zg, Yb, Yd, Nat.reduceBEq, add1 (show k < 9223372036854775807 by omega)]
        refine hQ2 _ _ _ ⟨k + 1, ⟨hk', fun i hi => ?_⟩, by omega, by simp (maxSteps := 2000000) only [vup, cond_true, cond_false, Nat.reduceBEq], rfl⟩
        rcases Nat.lt_or_ge i k with h1 | h1
        · exact hall i h1
        · rw [show i = k by omega, hxy, hzw]
      · have hb : (([x, y] : List Int) != [z, w]) = true := by
          simp only [bne, Bool.not_eq_true', beq_eq_false_iff_ne, ne_eq, List.cons.injEq, and_true]
          exact he
        simp (maxSteps := 2000000) only [↓Za, ↓Zr, ↓Zv, ↓Zb, ↓Zd, ↓vdn, vup, cond_true, cond_false, aop, Zf, Zm, ev, sput, Zg, Nat.reduceBEq, hb]
        refine hQ2 _ _ _ (hQ _ _ _ ?_)
        have hd : decide (xs = ys) = false := by
          rw [decide_eq_false_iff_not]
          rintro rfl
          rw [hxy] at hzw
          exact he (Prod.mk.inj hzw)
        simp (maxSteps := 2000000) only [vup, cond_true, cond_false, Zf, Zm, Nat.reduceBEq, Zs, Xw, tup, hd]
    · obtain rfl : k = xs.length := by omega
      refine Ze fun N7 hN7 => ?_
      simp (maxSteps := 2000000) only [↓Za, ↓Zb, ↓Zd, vup, cond_true, cond_false, aop, Zf, ev, sput, Zg, Yb, Yd, Nat.reduceBEq, hin]
      refine hN7 [(0, u), (1, v), (4, .bool false), (11, u), (12, Zc xs.length), (13, Zc xs.length), (14, .bool false)] _ _ ?_ (by simp (maxSteps := 2000000) only [vup, cond_true, cond_false, Nat.reduceBEq])
      clear hN7
      try clear N7
      refine Ze fun N8 hN8 => ?_
      simp (maxSteps := 2000000) only [↓Yo, ↓vdn, vup, cond_true, cond_false, Zf, ev, Nat.reduceBEq]
      refine hQ2 _ _ _ (hQ _ _ _ ?_)
      simp (maxSteps := 2000000) only [Zf, Zm, Zs, if_true]
      refine hZ [(0, u), (1, v), (4, .bool false), (11, u), (12, Zc xs.length), (13, Zc xs.length), (14, .bool false)] _ _ ?_ (by simp (maxSteps := 2000000) only [vup, cond_true, cond_false, Nat.reduceBEq])
      clear hZ
      try clear Z
      refine Zi ?_
      have hd : decide (xs = ys) = true := by
        rw [decide_eq_true_eq]; exact pairs_eq hn _ (Nat.le_refl _) hall rfl
      simp (maxSteps := 2000000) only [↓Za, ↓Zr, ↓Zv, ↓Zb, ↓Zd, vup, cond_true, cond_false, aop, Zf, ev, sput, Zg, Nat.reduceBEq, Zs, Xw, tup, hd]
  · have hne : (((xs.length : Nat) : Int) != ((ys.length : Nat) : Int)) = true := by
      have : ¬ ((xs.length : Nat) : Int) = ((ys.length : Nat) : Int) := by omega
      simpa [bne] using this
    refine Zi ?_
    have hd : decide (xs = ys) = false := by
      rw [decide_eq_false_iff_not]
      rintro rfl; exact hn rfl
    simp (maxSteps := 2000000) only [↓Za, ↓Zo, ↓Zr, ↓aw_block, ↓Zv, ↓Zb, ↓Zd, ↓vdn, vup, List.map_cons, List.map_nil, cond_true, cond_false, aop, Zf, ev, sput, Zg, Yb, Yd, Zj, Nat.reduceBEq, Zs, Xw, tup, tyf, hu.len, hv.len, hne, hd]
end Go.Proofs.Try.Am

namespace Go.Proofs.Try.Am
open Go.Am Bq
set_option maxRecDepth 100000
set_option maxHeartbeats 2000000

theorem pairSl_shape {h : Zh} {v : Value} {l : List (Int × Int)} (hv : PairSl h v l) : ∃ p n c, v = .slice p n c := by
  rcases hv with ⟨rfl, _⟩ | ⟨b, o, sp, cap, c, e, ro, rfl, _⟩
  · exact ⟨_, _, _, rfl⟩
  · exact ⟨_, _, _, rfl⟩
theorem bldT {n : Int} {p : Option Addr} {m c : Nat} {K : Value → Prop} : Vx prog 86 [(0, Zc n), (1, .slice p m c)] K = K (.agg #[Zc n, .slice p m c]) := by
  simp [Vx, zero_86, fillL, pl_86_0, pl_86_1, Wt, cellsOf, Yg]
theorem storeT {h : Zh} {b : Nat} {n : Int} {p : Option Addr} {m k : Nat} {e : TypeId} {c : List Value} {K : Zh → Prop} (hb : h[b]? = some (.cells c e false)) (hc : c.length = 2) : Xx prog h 86 (.pointer (some ⟨b, 0, none⟩)) (.agg #[Zc n, .slice p m k]) K = K (h.set b (.cells [Zc n, .slice p m k] e false)) :=
  storeA (vs := [Zc n, .slice p m k]) hb (by rw [shp_86]; rfl) rfl (by rw [hc]; rfl)
theorem loadT {h : Zh} {b : Nat} {n : Int} {v : Value} {K : Value → Prop} (hb : h[b]? = some (.cells [Zc n, v] 86 false)) : Xo prog h 86 (.pointer (some ⟨b, 0, none⟩)) K = K (.agg #[Zc n, v]) :=
  loadA hb (by rw [shp_86]; rfl)

/-- What Sound hands back. -/
def SoundIs (n : Int) (l : List (Int × Int)) (h' : Zh) (x : Value) (e : Int) : Prop :=
  if Xf n l = true then (match Wu n.toNat l with | [] => x = .slice none 0 0 ∧ e = 5 | c :: _ => e = 0 ∧ BelAt h' x c) else x = .slice none 0 0 ∧ e = 2
theorem s36_callW [Tabs Try.prog] {args : List Value} {h : Zh} {Q : Value → Zh → Prop} (hsz : args.length ≤ 22) (hk : AWS Try.prog 22 s36 (Zs Try.prog [.tmp 4, .tmp 5] Q) (Zp 0 args) h) : ACall Try.prog 36 args h Q :=
  Ym Try.func36 rfl (enters_of Try.func36 (by kernel_rfl) rfl) rfl rfl (by decide) s36_strip s36_ok hsz hk
theorem sound_call [Tabs prog] {h : Zh} {n : Int} {v : Value} {l : List (Int × Int)} (hv : PairSl h v l) (hl : l.length < 9223372036854775808) (ht : Xf n l = true → TameAll n.toNat l) :
    ACall prog 36 [Zc n, v] h fun r h' => Ext (fun _ => False) h h' ∧ ∃ x e, r = .tuple #[x, .int .i64 e] ∧ SoundIs n l h' x e := by
  obtain ⟨p, m, c, rfl⟩ := pairSl_shape hv
  obtain ⟨H, hH⟩ : ∃ H, H = h ++ [Blk.cells [Zc n, .slice p m c] 86 false] := ⟨_, rfl⟩
  have hE : Ext (fun _ => False) h H := by rw [hH]; exact Ext.app _ _ _
  have b6 : H[h.length]? = some (.cells [Zc n, .slice p m c] 86 false) := by rw [hH]; exact Zw _ _
  have hvH := hv.ext hE
  refine s36_callW (by simp) ?_
  simp only [s36]
  refine Ze fun N1 hN1 => ?_
  simp (maxSteps := 2000000) only [↓Za, ↓Zb, ↓Zd, vup, cond_false, aop, Zf, Zp, ev, sput, Zg, Nat.reduceBEq, Nat.reduceAdd]
  refine hN1 [(0, Zc n), (1, .slice p m c), (4, .slice none 0 0), (5, .int .i64 0)] _ _ ?_ (by simp (maxSteps := 2000000) only [vup, cond_true, cond_false, Nat.reduceBEq])
  clear hN1
  try clear N1
  refine Ze fun N2 hN2 => ?_
  simp (maxSteps := 2000000) only [↓Za, ↓Zb, ↓Zd, vup, List.map_cons, List.map_nil, cond_true, cond_false, aop, Zf, ev, sput, Zg, Nat.reduceBEq, tyf, bldT, Xm, Yq, storeT (Zw h (.cells [.int .i64 0, .slice none 0 0] 86 false)) rfl, Wb]
  rw [← hH]
  refine hN2 [(4, .slice none 0 0), (5, .int .i64 0), (6, .pointer (some ⟨h.length, 0, none⟩))] _ _ ?_ (by simp (maxSteps := 2000000) only [vup, cond_true, cond_false, Nat.reduceBEq])
  clear hN2
  try clear N2
  refine Zk fun M hM => ?_
  refine Ze fun N3 hN3 => ?_
  simp (maxSteps := 2000000) only [↓Za, ↓Zb, ↓Zd, vup, List.map_cons, List.map_nil, cond_true, cond_false, aop, Zf, ev, sput, Zg, unK, Nat.reduceBEq, Yr, List.nil_append, List.append_nil, loadT b6]
  refine (valid_call hvH hl).mono ?_
  rintro _ H ⟨rfl, rfl⟩
  refine hN3 [(4, .slice none 0 0), (5, .int .i64 0), (6, .pointer (some ⟨h.length, 0, none⟩)), (13, .bool (!Xf n l))] _ _ ?_ (by simp (maxSteps := 2000000) only [vup, cond_true, cond_false, Nat.reduceBEq])
  clear hN3
  try clear N3
  cases hval : Xf n l with
  | false =>
    refine Xj rfl ?_
    refine Zi ?_
    simp (maxSteps := 2000000) only [↓Za, ↓Zr, ↓Zv, ↓Zb, ↓Zd, vup, cond_true, cond_false, aop, Zf, ev, sput, Zg, Nat.reduceBEq, Zs, Xw, tup]
    exact ⟨hE, _, _, rfl, by rw [SoundIs, if_neg (by simp [hval])]; exact ⟨rfl, rfl⟩⟩
  | true =>
    refine Yu rfl ?_
    refine Zi ?_
    simp (maxSteps := 2000000) only [↓Zo, vup, Zf]
    refine hM [(4, .slice none 0 0), (5, .int .i64 0), (6, .pointer (some ⟨h.length, 0, none⟩))] _ _ ?_ (by simp (maxSteps := 2000000) only [vup, cond_true, cond_false, Nat.reduceBEq])
    clear hM
    try clear M
    have hn : n = (n.toNat : Int) := by
      simp only [Xf, Bool.and_eq_true, decide_eq_true_eq] at hval; omega
    have hcor := corners_call (n := n.toNat) hvH (by rw [← hn]; exact hval) (ht hval)
    rw [← hn] at hcor
    refine Ze fun N4 hN4 => ?_
    simp (maxSteps := 2000000) only [↓Za, ↓Zb, ↓Zd, vup, List.map_cons, List.map_nil, cond_true, cond_false, aop, Zf, ev, sput, Zg, Nat.reduceBEq, Yr, List.nil_append, List.append_nil, loadT b6]
    refine (hcor).mono ?_
    rintro r H1 ⟨hE1, ⟨ws, hor, heach⟩, hb⟩
    refine hN4 [(4, .slice none 0 0), (5, .int .i64 0), (6, .pointer (some ⟨h.length, 0, none⟩)), (7, r)] _ _ ?_ (by simp (maxSteps := 2000000) only [vup, cond_true, cond_false, Nat.reduceBEq])
    clear hN4
    try clear N4
    have hEE := hE.trans hE1
    have hlen := heach.len
    refine Zi ?_
    have his : ∀ x e, SoundIs n l H1 x e ↔ (match Wu n.toNat l with | [] => x = .slice none 0 0 ∧ e = 5 | c :: _ => e = 0 ∧ BelAt H1 x c) := fun x e => by rw [SoundIs, if_pos hval]
    cases hc : Wu n.toNat l with
    | nil =>
      rw [hc] at hlen heach
      have h0 : (((ws.length : Nat) : Int) == 0) = true := by simp [hlen]
      simp (maxSteps := 2000000) only [↓Za, ↓Zo, ↓Zr, ↓Zv, ↓Zb, ↓Zd, ↓vdn, vup, List.map_cons, List.map_nil, cond_true, cond_false, aop, Zf, ev, sput, Zg, Yb, Yd, Zj, Nat.reduceBEq, Zs, Xw, tup, tyf, hor.val.len, h0]
      exact ⟨hEE, _, _, rfl, (his _ _).2 (by rw [hc]; exact ⟨rfl, rfl⟩)⟩
    | cons c0 cs =>
      rw [hc] at hlen heach
      have hpos : 0 < ws.length := by rw [hlen]; simp
      have h0 : (((ws.length : Nat) : Int) == 0) = false := beq_eq_false_iff_ne.2 (by omega)
      have hi0 : ∀ K : Value → Prop, Yx prog 88 r (.int .i64 0) K = K (Vl r 1 0) := fun K => by
        have := hor.val.idx el_88 esz_90 (k := .i64) hpos K
        simpa using this
      simp (maxSteps := 2000000) only [↓Za, ↓Zo, ↓Zr, ↓Zv, ↓Zb, ↓Zd, ↓vdn, vup, List.map_cons, List.map_nil, cond_true, cond_false, aop, Zf, ev, sput, Zg, Yb, Yd, Zj, Nat.reduceBEq, Zs, Xw, tup, tyf, hor.val.len, h0, hi0, hor.val.load shp_90 hpos]
      have hbel := heach.get undef [] (k := 0) (by simp)
      exact ⟨hEE, _, _, rfl, (his _ _).2 (by rw [hc]; exact ⟨rfl, hbel⟩)⟩

theorem s21_callW [Tabs Try.prog] {args : List Value} {h : Zh} {Q : Value → Zh → Prop} (hsz : args.length ≤ 18) (hk : AWS Try.prog 18 s21 (Zs Try.prog [.tmp 0] Q) (Zp 0 args) h) : ACall Try.prog 21 args h Q :=
  Ym Try.func21 rfl (enters_of Try.func21 (by kernel_rfl) rfl) rfl rfl (by decide) s21_strip s21_ok hsz hk
theorem awake_call [Tabs prog] {h : Zh} : Xc prog 21 [] h (.bool true) := by
  refine ACall.forget (Low.bool _) ?_
  refine s21_callW (by simp) ?_
  simp only [s21]
  have bldB : ∀ {x y : Int} {K : Value → Prop}, Vx prog 92 [(0, Zc x), (1, Zc y)] K = K (.agg #[Zc x, Zc y]) := fun {x y K} => by
    simp [Vx, zero_92, fillL, pl_92_0, pl_92_1, Wt, cellsOf, Yg]
  have lit : ∀ {K : Value → Zh → Prop}, Yp prog h 30 1 [(0, .agg #[Zc 1, Zc 6])] K = K (.slice (some ⟨h.length, 0, none⟩) 1 1) (h ++ [.ints [1, 6] 92 false]) := fun {K} => by
    simp only [Yp, el_30, zero_92, esz_92, reps, fillL, mkb, Wt, cellsOf, List.length_cons, List.length_nil, Nat.zero_add, Nat.zero_mul, Yg]
    refine propext ⟨fun h => ?_, fun h => ⟨trivial, by decide, by decide, ?_⟩⟩
    · simpa [Xl] using h.2.2.2
    · simpa [Xl] using h
  have hp : PairSl (h ++ [.ints [1, 6] 92 false]) (.slice (some ⟨h.length, 0, none⟩) 1 1) [(1, 6)] := .inr ⟨h.length, 0, none, 1, [Zc 1, Zc 6], 92, false, rfl, Nat.le_refl _, by simp [view, Blk.view], fun i hi => by
    obtain rfl : i = 0 := by simpa using hi
    exact ⟨rfl, rfl⟩⟩
  have hv : Xf 2 [(1, 6)] = true := by decide
  refine Ze fun N5 hN5 => ?_
  simp (maxSteps := 2000000) only [↓Za, ↓Zb, ↓Zd, vup, aop, Zf, Zp, ev, sput, Zg]
  refine hN5 [(0, .bool false)] _ _ ?_ (by simp (maxSteps := 2000000) only [vup, cond_true, Nat.reduceBEq])
  clear hN5
  try clear N5
  refine Ze fun N6 hN6 => ?_
  simp (maxSteps := 2000000) only [↓Za, ↓Zb, ↓Zd, vup, List.map_cons, List.map_nil, cond_true, cond_false, aop, Zf, ev, sput, Zg, Nat.reduceBEq, bldB, lit, Yr, List.nil_append, List.append_nil]
  refine (sound_call (n := 2) hp (by decide) fun _ => tame_awake).mono ?_
  rintro r h1 ⟨hE1, x, e, rfl, hs⟩
  rw [SoundIs, if_pos hv, show (2 : Int).toNat = 2 from rfl, corners_awake] at hs
  simp only at hs
  obtain ⟨rfl, bl, rfl, hbl⟩ := hs
  have hE : Ext (fun _ => False) h h1 := (Ext.app _ _ _).trans hE1
  have px := Vt hbl
  have hlist : ([1 / 2, 1 / 2] : List Rat).map ofQ = [(1, 2), (1, 2)] := by decide +kernel
  rw [hlist] at px
  simp (maxSteps := 2000000) only [extr_20, extr_21, Nat.reduceAdd, List.length_cons, List.length_nil]
  refine hN6 [(0, .bool false), (1, .slice (some ⟨bl, 0, none⟩) 2 2), (2, .int .i64 0)] _ _ ?_ (by simp (maxSteps := 2000000) only [vup, cond_true, cond_false, Nat.reduceBEq])
  clear hN6
  try clear N6
  have lit2 : ∀ {K : Value → Zh → Prop}, Yp prog h1 47 2 [(0, .agg #[Zc 1, Zc 2]), (1, .agg #[Zc 1, Zc 2])] K = K (.slice (some ⟨h1.length, 0, none⟩) 2 2) (h1 ++ [.ints [1, 2, 1, 2] 26 false]) := fun {K} => by
    simp [Yp, el_47, zero_26, Wr, reps, fillL, mkb, Wt, cellsOf, Yg, Xl]
  have p2 : PairSl (h1 ++ [.ints [1, 2, 1, 2] 26 false]) (.slice (some ⟨h1.length, 0, none⟩) 2 2) [(1, 2), (1, 2)] := .inr ⟨h1.length, 0, none, 2, [Zc 1, Zc 2, Zc 1, Zc 2], 26, false, rfl, Nat.le_refl _, by simp [view, Blk.view], fun i hi => by
    have : i = 0 ∨ i = 1 := by simp at hi; omega
    rcases this with rfl | rfl <;> exact ⟨rfl, rfl⟩⟩
  have eq := equalF_call (px.ext (Ext.app _ _ _)) p2 (by decide)
  refine Zi ?_
  simp (maxSteps := 2000000) only [↓Za, ↓Zr, ↓Zv, ↓Zb, ↓Zd, ↓vdn, vup, List.map_cons, List.map_nil, cond_true, cond_false, aop, Zf, ev, sput, Zg, Yb, Yd, Nat.reduceBEq, Int.reduceBEq, Zs, Xw, tup, Yr, List.nil_append, List.append_nil, bldF, lit2]
  refine (eq).mono ?_
  rintro _ _ ⟨rfl, rfl⟩
  simp (maxSteps := 2000000) only [vup]
  exact hE.trans (Ext.app _ _ _)
end Go.Proofs.Try.Am

namespace Go.Proofs.Try.Am
open Go.Am Bq
set_option maxRecDepth 100000
set_option maxHeartbeats 4000000

/-- It sums to one, and has each bet's price. -/
def agB (l ps : List (Int × Int)) : Bool := decide (Ya (fq ps) ps.length = 1) && l.all fun b => decide (Ya (inEv (fq ps) b.1.toNat) ps.length = Rat.divInt b.2 12)

theorem s109_callW [Tabs Try.prog] {args : List Value} {h : Zh} {Q : Value → Zh → Prop} (hsz : args.length ≤ 12) (hk : AWS Try.prog 12 s109 (Zs Try.prog [.tmp 3] Q) (Zp 0 args) h) : ACall Try.prog 109 args h Q :=
  Ym Try.func109 rfl (enters_of Try.func109 (by kernel_rfl) rfl) rfl rfl (by decide) s109_strip s109_ok hsz hk
theorem agrees1_call [Tabs prog] {h : Zh} {bb e : Nat} {c : Int} {w : Value} {ps : List (Int × Int)} (hb : h[bb]? = some (.cells [w] 90 false)) (hw : PairSl h w ps) (hl : ps.length ≤ 100) (cn : Chn ps) (he : e < 9223372036854775808) (hc : 0 ≤ c ∧ c ≤ 12) :
    Xc prog 109 [.agg #[Zc (e : Nat), Zc c], .pointer (some ⟨bb, 0, none⟩)] h (.bool (decide (Ya (inEv (fq ps) e) ps.length = Rat.divInt c 12))) := by
  have hm := (mult_spec cn.m).2.2
  obtain ⟨H, hH⟩ : ∃ H, H = h ++ [bB (e : Int) c] := ⟨_, rfl⟩
  have hE : Ext (fun _ => False) h H := by rw [hH]; exact Ext.app _ _ _
  have c2 : H[h.length]? = some (bB (e : Int) c) := by rw [hH]; exact Zw _ _
  have c1 : H[bb]? = some (.cells [w] 90 false) := (hE.2 _ (Xa hb) id).trans hb
  have hwH := hw.ext hE
  have ofc := of_call (h := H) (evt := e) (N := Xv ps) hwH hl cn.vld he (Nat.pos_of_ne_zero cn.m) (by omega) (fun k hk => cn.unit hk)
  have fr := frac_call (h := H) (a := c) (b := 12) (by decide) (by omega) (by decide)
  obtain ⟨A, hA⟩ : ∃ A, Ya (inEv (fq ps) e) ps.length = A := ⟨_, rfl⟩
  obtain ⟨D, hD⟩ : ∃ D, Rat.divInt c 12 = D := ⟨_, rfl⟩
  rw [hA] at ofc ⊢
  rw [hD] at fr ⊢
  refine ACall.forget (Low.bool _) ?_
  refine s109_callW (by simp) ?_
  refine Zi ?_
  simp (maxSteps := 2000000) only [s109, ↓Za, ↓Zr, ↓Zb, ↓Zd, vup, cond_true, cond_false, aop, Zf, Zp, ev, sput, Zg, Nat.reduceBEq, Nat.reduceAdd, boxB, Yq]
  rw [← hH]
  simp only [q109_1]
  refine Xg [(3, 1), (6, 1)] (by kernel_rfl) (by kernel_rfl) (by kernel_rfl) (by kernel_rfl) ?_
  refine Vy 4 rfl fun N1 hN1 => ?_
  simp (maxSteps := 2000000) only [↓Yc, ↓vdn, vup, List.map_cons, List.map_nil, cond_true, cond_false, aop, ev, sput, Zg, Nat.reduceBEq, Nat.reduceAdd, List.take_succ_cons, List.take_zero, load1 c1 shp_90, bA0, loadB0 c2, Yr, List.nil_append, List.append_nil]
  refine ⟨_, _, ofc, rfl, ?_⟩
  refine hN1 _ _ ?_
  clear hN1 N1
  refine Vy 3 rfl fun N1 hN1 => ?_
  simp (maxSteps := 2000000) only [↓Yc, ↓vdn, vup, List.map_cons, List.map_nil, cond_true, cond_false, aop, ev, sput, Zg, Nat.reduceBEq, Nat.reduceAdd, List.drop_succ_cons, List.drop_zero, List.take_succ_cons, List.take_zero, bA1, loadB1 c2, Yr, List.nil_append, List.append_nil]
  refine ⟨_, _, fr, rfl, ?_⟩
  refine hN1 _ _ ?_
  clear hN1 N1
  simp (maxSteps := 2000000) only [↓Zv, ↓Yc, ↓vdn, vup, cond_true, cond_false, aop, Zf, ev, sput, Zg, Yb, Nat.reduceBEq, Nat.reduceAdd, Zs, Xw, tup, List.drop_succ_cons, List.drop_zero, qV, frV, Xl, Option.map_some, List.length_cons, List.length_nil, Nat.zero_add, eqF, qeq]
  exact hE

theorem loadBt {h : Zh} {b : Nat} {x y : Int} {K : Value → Prop} (hb : h[b]? = some (bB x y)) : Xo prog h 92 (.pointer (some ⟨b, 0, none⟩)) K = K (.agg #[Zc x, Zc y]) := loadA hb (by rw [shp_92]; rfl)
theorem s119_callW [Tabs Try.prog] {args : List Value} {h : Zh} {Q : Value → Zh → Prop} (hsz : args.length ≤ 8) (hk : AWS Try.prog 8 s119 (Zs Try.prog [.tmp 3] Q) (Zp 0 args) h) : ACall Try.prog 119 args h Q :=
  Ym Try.func119 rfl (enters_of Try.func119 (by kernel_rfl) rfl) rfl rfl (by decide) s119_strip s119_ok hsz hk
theorem notB_call [Tabs prog] {h : Zh} {b : Nat} {x y : Int} {g : FuncId} {cap : Array Value} {t : Bool} (hb : h[b]? = some (.cells [.func (.func g) #[] cap] 112 false))
    (hc : ∀ h', Ext (fun _ => False) h h' → Xc prog g ([.agg #[Zc x, Zc y]] ++ cap.toList) h' (.bool t)) : Xc prog 119 [.agg #[Zc x, Zc y], .pointer (some ⟨b, 0, none⟩)] h (.bool (!t)) := by
  refine ACall.forget (Low.bool _) ?_
  refine s119_callW (by simp) ?_
  refine Zi ?_
  simp (maxSteps := 2000000) only [s119, ↓Za, ↓Zr, ↓Zv, ↓Zb, ↓Zd, vup, List.map_cons, List.map_nil, cond_true, cond_false, aop, Zf, Zp, ev, sput, Zg, unK, Nat.reduceBEq, Nat.reduceAdd, Zs, Xw, tup, boxB, Yq, load1 (Xy hb _) shp_112, loadBt (Zw h _), Yr, List.nil_append]
  refine (show Xc prog g ([.agg #[Zc x, Zc y]] ++ cap.toList) (h ++ [bB x y]) (.bool t) from hc _ (Ext.app _ _ _)).mono ?_
  rintro _ _ ⟨rfl, rfl⟩
  simp (maxSteps := 2000000) only [vup]
  exact Ext.app _ _ _

theorem s108_callW [Tabs Try.prog] {args : List Value} {h : Zh} {Q : Value → Zh → Prop} (hsz : args.length ≤ 9) (hk : AWS Try.prog 9 s108 (Zs Try.prog [.tmp 4] Q) (Zp 0 args) h) : ACall Try.prog 108 args h Q :=
  Ym Try.func108 rfl (enters_of Try.func108 (by kernel_rfl) rfl) rfl rfl (by decide) s108_strip s108_ok hsz hk
theorem everyB_call [Tabs prog] {h : Zh} {v : Value} {ps : List (Int × Int)} {g : FuncId} {cap : Array Value} {f : Int × Int → Bool} (hv : PairSl h v ps) (hl : ps.length < 9223372036854775808)
    (hc : ∀ h', Ext (fun _ => False) h h' → ∀ p ∈ ps, Xc prog g ([.agg #[Zc p.1, Zc p.2]] ++ cap.toList) h' (.bool (f p))) : Xc prog 108 [v, .func (.func g) #[] cap] h (.bool (ps.all f)) := by
  obtain ⟨H, hH⟩ : ∃ H, H = h ++ [Blk.cells [.func (.func g) #[] cap] 112 false] := ⟨_, rfl⟩
  have hE : Ext (fun _ => False) h H := by rw [hH]; exact Ext.app _ _ _
  have c0 : H[h.length]? = some (Blk.cells [.func (.func g) #[] cap] 112 false) := by rw [hH]; exact Zw _ _
  have key := hasB_call (h := H) (g := 119) (cap := #[.pointer (some ⟨h.length, 0, none⟩)]) (f := fun p => !f p) (hv.ext hE) hl (fun h' hx p hp => notB_call ((hx.2 _ (Xa c0) id).trans c0) fun h2 hx2 => hc h2 (hE.trans (hx.trans hx2)) p hp)
  refine ACall.forget (Low.bool _) ?_
  refine s108_callW (by simp) ?_
  refine Zi ?_
  have hbx : ∀ {K : Value → Zh → Prop}, boxK prog h 112 (.func (.func g) #[] cap) K = K (Yq h) H := fun {K} => by
    rw [hH]; simp [boxK, esz_112, Yq, cellsOf]
  simp (maxSteps := 2000000) only [s108, ↓Za, ↓Zr, ↓Zv, ↓Zb, ↓Zd, vup, List.map_cons, List.map_nil, cond_true, cond_false, aop, Zf, Zp, ev, sput, Zg, unK, Nat.reduceBEq, Nat.reduceAdd, Zs, Xw, tup, Yr, List.nil_append, List.append_nil, hbx, Yq, List.map_toArray]
  refine (key).mono ?_
  rintro _ H ⟨rfl, rfl⟩
  simp (maxSteps := 2000000) only [vup, any_not]
  exact hE

theorem boxS [Tabs prog] {h : Zh} {v : Value} {xs : List (Int × Int)} (hv : PairSl h v xs) {K : Value → Zh → Prop} : boxK prog h 90 v K = K (Yq h) (h ++ [.cells [v] 90 false]) := by
  rcases hv with ⟨rfl, rfl⟩ | ⟨b, o, sp, cap, c, e, ro, rfl, _⟩ <;> simp [boxK, esz_90, Yq, cellsOf]

theorem s76_callW [Tabs Try.prog] {args : List Value} {h : Zh} {Q : Value → Zh → Prop} (hsz : args.length ≤ 17) (hk : AWS Try.prog 17 s76 (Zs Try.prog [.tmp 4] Q) (Zp 0 args) h) : ACall Try.prog 76 args h Q :=
  Ym Try.func76 rfl (enters_of Try.func76 (by kernel_rfl) rfl) rfl rfl (by decide) s76_strip s76_ok hsz hk
theorem agrees_call [Tabs prog] {h : Zh} {n : Nat} {v w : Value} {l ps : List (Int × Int)} (hv : PairSl h v l) (hw : PairSl h w ps) (hval : Xf n l = true) (hpl : ps.length = n) (cn : Chn ps) :
    Xc prog 76 [.agg #[Zc (n : Nat), v], w] h (.bool (agB l ps)) := by
  obtain ⟨hn2, hn5, hl1, hl6, hok⟩ := Vb hval
  have hm := (mult_spec cn.m).2.2
  obtain ⟨H1, hH1⟩ : ∃ H, H = h ++ [Blk.cells [Zc (n : Nat), v] 86 false] := ⟨_, rfl⟩
  have hE1 : Ext (fun _ => False) h H1 := by rw [hH1]; exact Ext.app _ _ _
  have hw1 := hw.ext hE1
  obtain ⟨H, hH⟩ : ∃ H, H = H1 ++ [Blk.cells [w] 90 false] := ⟨_, rfl⟩
  have hE2 : Ext (fun _ => False) H1 H := by rw [hH]; exact Ext.app _ _ _
  have hE := hE1.trans hE2
  have b3 : H[H1.length]? = some (.cells [w] 90 false) := by rw [hH]; exact Zw _ _
  have b2 : H[h.length]? = some (.cells [Zc (n : Nat), v] 86 false) := by rw [hH, hH1]; exact Xy (Zw _ _) _
  have hvH := hv.ext hE
  have hwH := hw.ext hE
  have hl1' : H1.length = h.length + 1 := by rw [hH1]; simp
  refine ACall.forget (Low.bool _) ?_
  refine s76_callW (by simp) ?_
  simp only [s76]
  refine Ze fun N1 hN1 => ?_
  simp (maxSteps := 2000000) only [↓Za, ↓Zb, ↓Zd, vup, cond_true, cond_false, aop, Zf, Zp, ev, sput, Zg, Nat.reduceBEq, Nat.reduceAdd, boxT, Yq]
  rw [← hH1]
  simp (maxSteps := 2000000) only [boxS hw1, Yq]
  rw [← hH]
  refine hN1 [(2, .pointer (some ⟨h.length, 0, none⟩)), (3, .pointer (some ⟨H1.length, 0, none⟩)), (4, .bool false)] _ _ ?_ (by simp (maxSteps := 2000000) only [vup, cond_true, cond_false, Nat.reduceBEq])
  clear hN1
  try clear N1
  have ofc := of_call (h := H) (evt := 2 ^ n - 1) (N := Xv ps) hwH (by omega) cn.vld (by have := pow_le (show n ≤ 62 by omega); omega) (Nat.pos_of_ne_zero cn.m) (by omega) (fun k hk => cn.unit hk)
  rw [hpl, inEv_all] at ofc
  have wc : Xc prog 70 [Zc 1] H (qV ((1 : Int) : Rat)) := whole_call
  have hag : agB l ps = (decide (Ya (fq ps) n = ((1 : Int) : Rat)) && l.all fun b => decide (Ya (inEv (fq ps) b.1.toNat) n = Rat.divInt b.2 12)) := by rw [agB, hpl]; rfl
  rw [hag]
  obtain ⟨A, hA⟩ : ∃ A, Ya (fq ps) n = A := ⟨_, rfl⟩
  obtain ⟨one, hone⟩ : ∃ A : Rat, ((1 : Int) : Rat) = A := ⟨_, rfl⟩
  rw [hA] at ofc
  rw [hone] at wc
  rw [hA, hone]
  have ne : ([A.num, (A.den : Int)] != [one.num, (one.den : Int)]) = !decide (A = one) := by rw [bne, qeq]
  have hev := everyB_call (h := H) (g := 109) (cap := #[.pointer (some ⟨H1.length, 0, none⟩)]) (f := fun b => decide (Ya (inEv (fq ps) b.1.toNat) n = Rat.divInt b.2 12)) hvH (by omega) (fun h' hx p hp => by
    obtain ⟨i, hi, hip⟩ := List.getElem_of_mem hp
    have hb := hok i hi
    have hgi : l.getD i (0, 0) = p := by rw [List.getD, List.getElem?_eq_getElem hi]; exact hip
    rw [hgi] at hb
    simp only [okB, Bool.and_eq_true, decide_eq_true_eq] at hb
    obtain ⟨x, y⟩ := p
    simp only at hb ⊢
    obtain ⟨e, he⟩ : ∃ e : Nat, x = e := ⟨x.toNat, by omega⟩
    subst he
    have hee : e < 2 ^ n := by
      have := hb.2.1
      exact_mod_cast this
    have := pow_le (show n ≤ 62 by omega)
    have key := agrees1_call (h := h') (e := e) (c := y) ((hx.2 _ (Xa b3) id).trans b3) (hwH.ext hx) (by omega) cn (by omega) hb.2.2
    rw [hpl] at key
    exact key)
  refine Zk fun M hM => ?_
  refine Ze fun N2 hN2 => ?_
  simp only [q76_1]
  refine Xg [(5, 1), (6, 1)] (by kernel_rfl) (by kernel_rfl) (by kernel_rfl) (by kernel_rfl) ?_
  refine Vy 6 rfl fun N1 hN1 => ?_
  simp (maxSteps := 2000000) only [↓Yc, ↓vdn, vup, List.map_cons, List.map_nil, cond_true, cond_false, aop, ev, sput, Zg, Yb, Yd, Nat.reduceBEq, Nat.reduceAdd, tyf, List.take_succ_cons, List.take_zero, load1 b3 shp_90, tA0, loadT0 b2, shl1 (show n ≤ 62 by omega), all_worlds (show n ≤ 62 by omega), Int.natCast_nonneg, Yr, List.nil_append, List.append_nil]
  refine ⟨_, _, ofc, rfl, ?_⟩
  refine hN1 _ _ ?_
  clear hN1 N1
  refine Vy 1 rfl fun N1 hN1 => ?_
  simp (maxSteps := 2000000) only [↓Yc, ↓vdn, vup, List.map_cons, List.map_nil, cond_true, cond_false, ev, sput, Zg, Nat.reduceBEq, Nat.reduceAdd, List.drop_succ_cons, List.drop_zero, List.take_succ_cons, List.take_zero, Yr, List.nil_append, List.append_nil]
  refine ⟨_, _, wc, rfl, ?_⟩
  refine hN1 _ _ ?_
  clear hN1 N1
  simp (maxSteps := 2000000) only [↓Yc, ↓vdn, vup, cond_true, cond_false, aop, Zf, ev, sput, Zg, Yb, Nat.reduceBEq, Nat.reduceAdd, List.drop_succ_cons, List.drop_zero, qV, frV, Xl, Option.map_some, List.length_cons, List.length_nil, Nat.zero_add, eqF, ne]
  refine hN2 [(2, .pointer (some ⟨h.length, 0, none⟩)), (3, .pointer (some ⟨H1.length, 0, none⟩)), (4, .bool false), (12, .bool (!decide (A = one)))] _ _ ?_ (by simp (maxSteps := 2000000) only [vup, cond_true, cond_false, Nat.reduceBEq])
  clear hN2
  try clear N2
  by_cases h1 : A = one
  · have hd : decide (A = one) = true := decide_eq_true h1
    rw [hd]
    refine Yu rfl ?_
    refine Zi ?_
    simp (maxSteps := 2000000) only [↓Zo, vup, Zf]
    refine hM [(2, .pointer (some ⟨h.length, 0, none⟩)), (3, .pointer (some ⟨H1.length, 0, none⟩)), (4, .bool false)] _ _ ?_ (by simp (maxSteps := 2000000) only [vup, cond_true, cond_false, Nat.reduceBEq])
    clear hM
    try clear M
    refine Zi ?_
    simp (maxSteps := 2000000) only [↓Za, ↓Zr, ↓Zv, ↓Zb, ↓Zd, vup, List.map_cons, List.map_nil, cond_true, cond_false, aop, Zf, ev, sput, Zg, Nat.reduceBEq, Zs, Xw, tup, Yr, List.nil_append, List.append_nil, tA1, loadT1 b2, List.map_toArray]
    refine (hev).mono ?_
    rintro _ H ⟨rfl, rfl⟩
    simp (maxSteps := 2000000) only [vup, hd, Bool.true_and]
    exact hE
  · have hd : decide (A = one) = false := decide_eq_false h1
    rw [hd]
    refine Xj rfl ?_
    refine Zi ?_
    simp (maxSteps := 2000000) only [↓Za, ↓Zr, ↓Zv, ↓Zb, ↓Zd, vup, cond_true, cond_false, aop, Zf, ev, sput, Zg, Nat.reduceBEq, Zs, Xw, tup, Bool.false_and]
    exact hE

theorem s37_callW [Tabs Try.prog] {args : List Value} {h : Zh} {Q : Value → Zh → Prop} (hsz : args.length ≤ 29) (hk : AWS Try.prog 29 s37 (Zs Try.prog [.tmp 6, .tmp 7] Q) (Zp 0 args) h) : ACall Try.prog 37 args h Q :=
  Ym Try.func37 rfl (enters_of Try.func37 (by kernel_rfl) rfl) rfl rfl (by decide) s37_strip s37_ok hsz hk
theorem progAgrees_call [Tabs prog] {h : Zh} {n : Int} {v w : Value} {l ps : List (Int × Int)} (hv : PairSl h v l) (hl : l.length < 9223372036854775808) (hw : PairSl h w ps) (hlp : ps.length < 9223372036854775808) (hx : InR ps) :
    ACall prog 37 [Zc n, v, w] h fun r h' => Ext (fun _ => False) h h' ∧ r = if Xf n l = true ∧ Xs n ps = true then .tuple #[.bool (agB l ps), .int .i64 0] else .tuple #[.bool false, .int .i64 2] := by
  obtain ⟨p, m, c, rfl⟩ := pairSl_shape hv
  obtain ⟨H, hH⟩ : ∃ H, H = h ++ [Blk.cells [Zc n, .slice p m c] 86 false] := ⟨_, rfl⟩
  have hE : Ext (fun _ => False) h H := by rw [hH]; exact Ext.app _ _ _
  have b8 : H[h.length]? = some (.cells [Zc n, .slice p m c] 86 false) := by rw [hH]; exact Zw _ _
  have hvH := hv.ext hE
  have hwH := hw.ext hE
  refine s37_callW (by simp) ?_
  simp only [s37]
  refine Ze fun N3 hN3 => ?_
  simp (maxSteps := 2000000) only [↓Za, ↓Zb, ↓Zd, vup, cond_false, aop, Zf, Zp, ev, sput, Zg, Nat.reduceBEq, Nat.reduceAdd]
  refine hN3 [(0, Zc n), (1, .slice p m c), (2, w), (6, .bool false), (7, .int .i64 0)] _ _ ?_ (by simp (maxSteps := 2000000) only [vup, cond_true, cond_false, Nat.reduceBEq])
  clear hN3
  try clear N3
  refine Ze fun N4 hN4 => ?_
  simp (maxSteps := 2000000) only [↓Za, ↓Zb, ↓Zd, vup, List.map_cons, List.map_nil, cond_true, cond_false, aop, Zf, ev, sput, Zg, Nat.reduceBEq, tyf, bldT, Xm, Yq, storeT (Zw h (.cells [.int .i64 0, .slice none 0 0] 86 false)) rfl, Wb]
  rw [← hH]
  refine hN4 [(0, Zc n), (2, w), (6, .bool false), (7, .int .i64 0), (8, .pointer (some ⟨h.length, 0, none⟩))] _ _ ?_ (by simp (maxSteps := 2000000) only [vup, cond_true, cond_false, Nat.reduceBEq])
  clear hN4
  try clear N4
  refine Zk fun M hM => ?_
  refine Ze fun N5 hN5 => ?_
  have bad : ¬ (Xf n l = true ∧ Xs n ps = true) → ∀ e, ELe e [(0, Zc n), (2, w), (6, .bool false), (7, .int .i64 0), (8, .pointer (some ⟨h.length, 0, none⟩)), (25, .bool true)] → N5 e H := by
    intro hb e he
    refine hN5 _ _ _ ?_ he
    refine Xj rfl ?_
    refine Zi ?_
    simp (maxSteps := 2000000) only [↓Za, ↓Zr, ↓Zv, ↓Zb, ↓Zd, vup, cond_true, cond_false, aop, Zf, ev, sput, Zg, Nat.reduceBEq, Zs, Xw, tup]
    exact ⟨hE, by rw [if_neg hb]⟩
  simp (maxSteps := 2000000) only [↓Za, ↓Zd, vup, List.map_cons, List.map_nil, cond_true, cond_false, aop, ev, sput, Zg, unK, Nat.reduceBEq, Yr, List.nil_append, List.append_nil, loadT b8]
  refine (valid_call hvH hl).mono ?_
  rintro _ H ⟨rfl, rfl⟩
  cases hval : Xf n l with
  | false =>
    simp (maxSteps := 2000000) only [↓Zb, ↓Zd, ↓vdn, vup, cond_true, cond_false, aop, Zf, ev, sput, Zg, Nat.reduceBEq]
    exact bad (by rw [hval]; simp) _ (by simp (maxSteps := 2000000) only [vup, cond_true, cond_false, Nat.reduceBEq])
  | true =>
    by_cases hlen : (ps.length : Int) = n
    · have hne : (((ps.length : Nat) : Int) != n) = false := by simp [hlen]
      simp (maxSteps := 2000000) only [↓Zb, ↓Zd, ↓vdn, vup, List.map_cons, List.map_nil, cond_true, cond_false, aop, Zf, ev, sput, Zg, Yb, Yd, unK, Zj, Nat.reduceBEq, tyf, hwH.len, hne, Yr, List.nil_append, List.append_nil]
      refine (common_call hwH hlp hx).mono ?_
      rintro _ H ⟨rfl, rfl⟩
      have hch : Xs n ps = (decide (Xv ps ≠ 0) && ps.all fun p => decide (p.1 ≤ p.2)) := by rw [Xs, decide_eq_true hlen, Bool.true_and]
      rw [← hch]
      cases hc : Xs n ps with
      | false =>
        simp (maxSteps := 2000000) only [vup]
        exact bad (by rw [hc]; simp) _ (by simp (maxSteps := 2000000) only [vup, cond_true, cond_false, Nat.reduceBEq])
      | true =>
        simp (maxSteps := 2000000) only [vup]
        refine hN5 [(0, Zc n), (2, w), (6, .bool false), (7, .int .i64 0), (8, .pointer (some ⟨h.length, 0, none⟩)), (25, .bool false)] _ _ ?_ (by simp (maxSteps := 2000000) only [vup, cond_true, cond_false, Nat.reduceBEq])
        clear hN5
        try clear N5
        refine Yu rfl ?_
        refine Zi ?_
        simp (maxSteps := 2000000) only [↓Zo, Zf]
        refine hM [(0, Zc n), (2, w), (6, .bool false), (7, .int .i64 0), (8, .pointer (some ⟨h.length, 0, none⟩))] _ _ ?_ (by simp (maxSteps := 2000000) only [vup, cond_true, cond_false, Nat.reduceBEq])
        clear hM
        try clear M
        obtain ⟨cn, _⟩ := chances_chn hc
        obtain ⟨k, rfl⟩ : ∃ k : Nat, n = k := ⟨n.toNat, by omega⟩
        refine Zi ?_
        simp (maxSteps := 2000000) only [↓Za, ↓Zr, ↓Zv, ↓Zb, ↓Zd, vup, List.map_cons, List.map_nil, cond_true, cond_false, aop, Zf, ev, sput, Zg, Nat.reduceBEq, Zs, Xw, tup, Yr, List.nil_append, List.append_nil, loadT b8]
        refine (agrees_call hvH hwH hval (by omega) cn).mono ?_
        rintro _ H ⟨rfl, rfl⟩
        simp (maxSteps := 2000000) only [vup, if_pos (And.intro hval hc)]
        exact hE
    · have hne : (((ps.length : Nat) : Int) != n) = true := by simpa [bne] using hlen
      simp (maxSteps := 2000000) only [↓Zb, ↓Zd, ↓vdn, vup, List.map_cons, List.map_nil, cond_true, cond_false, aop, Zf, ev, sput, Zg, Yb, Yd, unK, Zj, Nat.reduceBEq, tyf, hwH.len, hne]
      exact bad (by rw [Xs, decide_eq_false hlen, Bool.false_and]; simp) _ (by simp (maxSteps := 2000000) only [vup, cond_true, cond_false, Nat.reduceBEq])

theorem s39_callW [Tabs Try.prog] {args : List Value} {h : Zh} {Q : Value → Zh → Prop} (hsz : args.length ≤ 36) (hk : AWS Try.prog 36 s39 (Zs Try.prog [.tmp 6] Q) (Zp 0 args) h) : ACall Try.prog 39 args h Q :=
  Ym Try.func39 rfl (enters_of Try.func39 (by kernel_rfl) rfl) rfl rfl (by decide) s39_strip s39_ok hsz hk
theorem ragrees_call [Tabs prog] {h : Zh} {n : Nat} {v w : Value} {l ps : List (Int × Int)} (hv : PairSl h v l) (hw : PairSl h w ps) (hval : Xf n l = true) (hpl : ps.length = n) (cn : Chn ps) (hx : InR ps) :
    Xc prog 39 [Zc (n : Nat), v, w] h (.bool (agB l ps)) := by
  obtain ⟨hn2, hn5, hl1, hl6, hok⟩ := Vb hval
  have hm := (mult_spec cn.m).2.2
  have hm0 := Nat.pos_of_ne_zero cn.m
  have pw := pow_le (show n ≤ 62 by omega)
  refine ACall.forget (Low.bool _) ?_
  refine s39_callW (by simp) ?_
  simp only [s39]
  refine Ze fun N6 hN6 => ?_
  simp (maxSteps := 2000000) only [↓Za, ↓Zb, ↓Zd, vup, cond_false, aop, Zf, Zp, ev, sput, Zg, Nat.reduceBEq, Nat.reduceAdd]
  refine hN6 [(0, Zc (n : Nat)), (1, v), (2, w), (6, .bool false)] _ _ ?_ (by simp (maxSteps := 2000000) only [vup, cond_true, cond_false, Nat.reduceBEq])
  clear hN6
  try clear N6
  refine Ze fun N7 hN7 => ?_
  simp (maxSteps := 2000000) only [↓Za, ↓Zb, ↓Zd, vup, List.map_cons, List.map_nil, cond_true, cond_false, aop, Zf, ev, sput, Zg, Nat.reduceBEq, Yr, List.nil_append, List.append_nil]
  refine (mult_call hw (by omega) hx).mono ?_
  rintro _ h ⟨rfl, rfl⟩
  refine hN7 [(0, Zc (n : Nat)), (1, v), (2, w), (6, .bool false), (7, Zc (Xv ps : Nat))] _ _ ?_ (by simp (maxSteps := 2000000) only [vup, cond_true, cond_false, Nat.reduceBEq])
  clear hN7
  try clear N7
  -- one bet
  have one : ∀ i, i < l.length → ∀ x y, l.getD i (0, 0) = (x, y) → ∃ e : Nat, x = e ∧ e < 2 ^ n ∧ 0 ≤ y ∧ y ≤ 12 ∧ ((12 * Wc (Xv ps) ps e ps.length) != y * (Xv ps : Int)) = !decide (Ya (inEv (fq ps) e) ps.length = Rat.divInt y 12) := by
    intro i hi x y hxy
    have hb := hok i hi
    rw [hxy] at hb
    simp only [okB, Bool.and_eq_true, decide_eq_true_eq] at hb
    obtain ⟨e, he⟩ : ∃ e : Nat, x = e := ⟨x.toNat, by omega⟩
    refine ⟨e, he, ?_, hb.2.2.1, hb.2.2.2, ?_⟩
    · have := hb.2.1
      rw [he] at this
      exact_mod_cast this
    · have r1 := (partTo_rp cn e ps.length (Nat.le_refl _)).up 12 (by decide)
      have r2 := (Rp.of_frac (N := 12) (by decide) y).up (Xv ps) hm0
      rw [Nat.mul_comm] at r1
      rw [bne, Bool.not_eq_eq_eq_not, Bool.not_not, Bool.eq_iff_iff, beq_iff_eq, decide_eq_true_eq]
      constructor
      · intro h1
        have e2 : Wc (Xv ps) ps e ps.length * ((12 : Nat) : Int) = y * ((Xv ps : Nat) : Int) := by rw [← h1]; omega
        rw [e2] at r1
        exact r1.uniq r2
      · intro h1
        rw [h1] at r1
        have := r1.2.symm.trans r2.2
        have h3 : Wc (Xv ps) ps e ps.length * ((12 : Nat) : Int) = y * ((Xv ps : Nat) : Int) := Rat.intCast_inj.1 this
        omega
  refine Zk fun Z hZ => ?_
  refine Ze fun N8 hN8 => ?_
  simp (maxSteps := 2000000) only [↓Za, ↓Zb, ↓Zd, vup, List.map_cons, List.map_nil, cond_true, cond_false, aop, Zf, ev, sput, Zg, Zj, Nat.reduceBEq, tyf, hv.len]
  refine hN8 [(0, Zc (n : Nat)), (1, v), (2, w), (6, .bool false), (7, Zc (Xv ps : Nat)), (12, v), (13, Zc l.length), (14, .int .i64 0)] _ _ ?_ (by simp (maxSteps := 2000000) only [vup, cond_true, cond_false, Nat.reduceBEq])
  clear hN8
  try clear N8
  refine Zl ?_
  refine Zn fun Q hQ => ?_
  refine Yj (γ := Nat × Zh) (fun s => s.1 ≤ l.length ∧ Ext (fun _ => False) h s.2 ∧ ∀ i, i < s.1 → decide (Ya (inEv (fq ps) (l.getD i (0, 0)).1.toNat) ps.length = Rat.divInt (l.getD i (0, 0)).2 12) = true)
    (fun s => ([(0, Zc (n : Nat)), (1, v), (2, w), (6, .bool false), (7, Zc (Xv ps : Nat)), (12, v), (13, Zc l.length), (14, Zc (s.1 : Nat))], s.2)) (fun s => l.length - s.1) (0, h) ⟨Nat.zero_le _, Ext.refl _ _, fun i hi => by omega⟩ (by simp (maxSteps := 2000000) only [vup, cond_true, cond_false, Nat.reduceBEq, Int.natCast_zero]) rfl ?_
  rintro ⟨k, hp⟩ ⟨hk, hEp, hall⟩
  simp only at hk hEp hall
  refine Zn fun Q2 hQ2 => ?_
  simp only [l39_0]
  by_cases hin : (k : Int) < l.length
  · have hk' : k < l.length := by omega
    have hvp := hv.ext hEp
    obtain ⟨⟨x, y⟩, hxy⟩ : ∃ p, l.getD k (0, 0) = p := ⟨_, rfl⟩
    obtain ⟨e, he, he2, y0, y1, hcmp⟩ := one k hk' x y hxy
    subst he
    obtain ⟨G, hG⟩ : ∃ G, G = hp ++ [rB (e : Int) y] := ⟨_, rfl⟩
    have c9 : G[hp.length]? = some (rB (e : Int) y) := by rw [hG]; exact Zw _ _
    have hEG : Ext (fun _ => False) h G := by rw [hG]; exact hEp.trans (Ext.app _ _ _)
    have hwG := hw.ext hEG
    have pc := part_call (h := G) (evt := e) hwG (by omega) hx cn (by omega)
    have pb := partTo_bound cn e ps.length (Nat.le_refl _)
    have hbm : (ps.length : Int) * (Xv ps : Int) ≤ 5 * (Xv ps : Int) := Int.mul_le_mul_of_nonneg_right (by omega) (by omega)
    obtain ⟨P, hP⟩ : ∃ P, Wc (Xv ps) ps e ps.length = P := ⟨_, rfl⟩
    rw [hP] at pc pb hcmp
    have ym : (y * (Xv ps : Int)).natAbs ≤ 12 * 10000000000 := by rw [Int.natAbs_mul, Int.natAbs_natCast]; exact Nat.mul_le_mul (by omega) hm
    have m1 : mulV .i64 12 P = 12 * P := mulN (by omega)
    have m2 : mulV .i64 y ((Xv ps : Nat) : Int) = y * (Xv ps : Int) := mulN (by omega)
    refine Ze fun N9 hN9 => ?_
    simp (maxSteps := 2000000) only [↓Za, ↓Zb, ↓Zd, vup, cond_true, cond_false, aop, Zf, ev, sput, Zg, Yb, Yd, Nat.reduceBEq, hin]
    refine hN9 [(0, Zc (n : Nat)), (1, v), (2, w), (6, .bool false), (7, Zc (Xv ps : Nat)), (12, v), (13, Zc l.length), (14, Zc (k : Nat)), (15, .bool true)] _ _ ?_ (by simp (maxSteps := 2000000) only [vup, cond_true, cond_false, Nat.reduceBEq])
    clear hN9
    try clear N9
    refine Ze fun N10 hN10 => ?_
    simp (maxSteps := 2000000) only [↓Zo, ↓vdn, vup, cond_true, cond_false, Zf, ev, Nat.reduceBEq]
    refine hN10 [(0, Zc (n : Nat)), (1, v), (2, w), (6, .bool false), (7, Zc (Xv ps : Nat)), (12, v), (13, Zc l.length), (14, Zc (k : Nat))] _ _ ?_ (by simp (maxSteps := 2000000) only [vup, cond_true, cond_false, Nat.reduceBEq])
    clear hN10
    try clear N10
    refine Zk fun B hB => ?_
    refine Zl ?_
    refine Ze fun N11 hN11 => ?_
    simp (maxSteps := 2000000) only [↓Za, ↓Zb, ↓Zd, vup, cond_true, cond_false, aop, Zf, ev, sput, Zg, Nat.reduceBEq, tyf, hvp.idx el_22 esz_24 hk', hvp.load shp_24 hk', hxy, Xm, Yq, storeRt (Zw hp zR) rfl, Wb]
    rw [← hG]
    refine hN11 [(0, Zc (n : Nat)), (1, v), (2, w), (6, .bool false), (7, Zc (Xv ps : Nat)), (9, .pointer (some ⟨hp.length, 0, none⟩)), (12, v), (13, Zc l.length), (14, Zc (k : Nat))] _ _ ?_ (by simp (maxSteps := 2000000) only [vup, cond_true, cond_false, Nat.reduceBEq])
    clear hN11
    try clear N11
    refine Ze fun N12 hN12 => ?_
    simp only [q39_5]
    refine Xg [(3, 1)] (by kernel_rfl) (by kernel_rfl) (by kernel_rfl) (by kernel_rfl) ?_
    refine Vy 4 rfl fun N1 hN1 => ?_
    simp (maxSteps := 2000000) only [↓Yc, ↓vdn, vup, List.map_cons, List.map_nil, cond_true, cond_false, aop, ev, sput, Zg, Nat.reduceBEq, Nat.reduceAdd, List.take_succ_cons, List.take_zero, rA0, loadR0 c9, Yr, List.nil_append, List.append_nil]
    refine ⟨_, _, pc, rfl, ?_⟩
    refine hN1 _ _ ?_
    clear hN1 N1
    simp (maxSteps := 2000000) only [↓Yc, ↓vdn, vup, cond_true, cond_false, aop, Zf, ev, sput, Zg, Yb, Yd, Nat.reduceBEq, Nat.reduceAdd, tyf, List.drop_succ_cons, List.drop_zero, rA1, loadR1 c9, m1, m2, hcmp]
    refine hN12 [(0, Zc (n : Nat)), (1, v), (2, w), (6, .bool false), (7, Zc (Xv ps : Nat)), (9, .pointer (some ⟨hp.length, 0, none⟩)), (12, v), (13, Zc l.length), (14, Zc (k : Nat)), (27, .bool (!decide (Ya (inEv (fq ps) e) ps.length = Rat.divInt y 12)))] _ _ ?_ (by simp (maxSteps := 2000000) only [vup, cond_true, cond_false, Nat.reduceBEq])
    clear hN12
    try clear N12
    by_cases hok1 : Ya (inEv (fq ps) e) ps.length = Rat.divInt y 12
    · have hd : decide (Ya (inEv (fq ps) e) ps.length = Rat.divInt y 12) = true := decide_eq_true hok1
      rw [hd]
      refine Yu rfl ?_
      refine Zi ?_
      simp (maxSteps := 2000000) only [↓Zo, vup, Zf, Zm]
      refine hB [(0, Zc (n : Nat)), (1, v), (2, w), (6, .bool false), (7, Zc (Xv ps : Nat)), (12, v), (13, Zc l.length), (14, Zc (k : Nat))] _ _ ?_ (by simp (maxSteps := 2000000) only [vup, cond_true, cond_false, Nat.reduceBEq])
      clear hB
      try clear B
      refine Zi ?_
      simp (maxSteps := 2000000) only [↓Za, ↓Zb, ↓Zd, vup, cond_true, cond_false, aop, ev, sput, Zg, Yb, Yd, Nat.reduceBEq, add1 (show k < 9223372036854775807 by omega)]
      refine hQ2 _ _ _ ⟨(k + 1, G), ⟨hk', hEG, fun i hi => ?_⟩, by simp only; omega, by simp (maxSteps := 2000000) only [vup, cond_true, cond_false, Nat.reduceBEq], rfl⟩
      rcases Nat.lt_or_ge i k with h2 | h2
      · exact hall i h2
      · rw [show i = k by omega, hxy]; simpa using hok1
    · have hd : decide (Ya (inEv (fq ps) e) ps.length = Rat.divInt y 12) = false := decide_eq_false hok1
      rw [hd]
      refine Xj rfl ?_
      refine Zi ?_
      simp (maxSteps := 2000000) only [↓Za, ↓Zr, ↓Zv, ↓Zb, ↓Zd, vup, cond_true, cond_false, aop, Zf, Zm, ev, sput, Zg, Nat.reduceBEq]
      refine hQ2 _ _ _ (hQ _ _ _ ?_)
      simp (maxSteps := 2000000) only [vup, cond_true, cond_false, Zf, Zm, Nat.reduceBEq, Zs, Xw, tup]
      have : agB l ps = false := by
        rw [agB, Bool.and_eq_false_iff]
        refine .inr ?_
        rw [List.all_eq_false]
        exact ⟨_, hxy ▸ We hk', by simp only [Int.toNat_natCast, hd]; decide⟩
      exact ⟨by rw [this], hEG⟩
  · obtain rfl : k = l.length := by omega
    refine Ze fun N13 hN13 => ?_
    simp (maxSteps := 2000000) only [↓Za, ↓Zb, ↓Zd, vup, cond_true, cond_false, aop, Zf, ev, sput, Zg, Yb, Yd, Nat.reduceBEq, hin]
    refine hN13 [(0, Zc (n : Nat)), (1, v), (2, w), (6, .bool false), (7, Zc (Xv ps : Nat)), (12, v), (13, Zc l.length), (14, Zc l.length), (15, .bool false)] _ _ ?_ (by simp (maxSteps := 2000000) only [vup, cond_true, cond_false, Nat.reduceBEq])
    clear hN13
    try clear N13
    refine Ze fun N14 hN14 => ?_
    simp (maxSteps := 2000000) only [↓Yo, ↓vdn, vup, cond_true, cond_false, Zf, ev, Nat.reduceBEq]
    refine hQ2 _ _ _ (hQ _ _ _ ?_)
    simp (maxSteps := 2000000) only [Zf, Zm, Zs, if_true]
    refine hZ [(0, Zc (n : Nat)), (1, v), (2, w), (6, .bool false), (7, Zc (Xv ps : Nat)), (15, .bool false)] _ _ ?_ (by simp (maxSteps := 2000000) only [vup, cond_true, cond_false, Nat.reduceBEq])
    clear hZ
    try clear Z
    have hwp := hw.ext hEp
    have pc := part_call (h := hp) (evt := 2 ^ n - 1) hwp (by omega) hx cn (by omega)
    have r1 := partTo_rp cn (2 ^ ps.length - 1) ps.length (Nat.le_refl _)
    rw [inEv_all, hpl] at r1
    rw [hpl] at pc
    have hfin : (Wc (Xv ps) ps (2 ^ n - 1) n == (Xv ps : Int)) = agB l ps := by
      have hr : (l.all fun b => decide (Ya (inEv (fq ps) b.1.toNat) ps.length = Rat.divInt b.2 12)) = true := by
        rw [List.all_eq_true]
        intro b hb
        obtain ⟨i, hi, hib⟩ := List.getElem_of_mem hb
        have := hall i hi
        rw [List.getD, List.getElem?_eq_getElem hi, Option.getD_some, hib] at this
        exact this
      rw [agB, hr, Bool.and_true, hpl, Bool.eq_iff_iff, beq_iff_eq, decide_eq_true_eq]
      constructor
      · intro h1
        rw [h1] at r1
        exact r1.uniq ⟨hm0, by rw [Rat.one_mul, Rat.intCast_natCast]⟩
      · intro h1
        rw [h1] at r1
        have := r1.2
        rw [Rat.one_mul, ← Rat.intCast_natCast] at this
        exact (Rat.intCast_inj.1 this).symm
    refine Zi ?_
    simp (maxSteps := 2000000) only [↓Za, ↓Zr, ↓Zv, ↓Zb, ↓Zd, vup, List.map_cons, List.map_nil, cond_true, cond_false, aop, Zf, ev, sput, Zg, Yb, Yd, Nat.reduceBEq, Zs, Xw, tup, tyf, Yr, List.nil_append, List.append_nil, shl1 (show n ≤ 62 by omega), all_worlds (show n ≤ 62 by omega), Int.natCast_nonneg]
    refine (pc).mono ?_
    rintro _ hp ⟨rfl, rfl⟩
    simp (maxSteps := 2000000) only [vup, hfin]
    exact hEp
end Go.Proofs.Try.Am

namespace Go.Proofs.Try.Am
open Go.Am Bq
set_option maxRecDepth 100000
set_option maxHeartbeats 1000000

end Go.Proofs.Try.Am

namespace Go.Proofs.Try.Am
open Go.Am Bq
set_option maxRecDepth 100000
set_option maxHeartbeats 1000000

end Go.Proofs.Try.Am

namespace Go.Proofs.Try.Am
open Go.Am Bq
set_option maxRecDepth 100000
set_option maxHeartbeats 1000000

theorem set_replicate {k n : Nat} (hk : k < n) : (List.replicate k ((0 : Int), (1 : Int)) ++ List.replicate (n - k) (0, 0)).set k (0, 1) = List.replicate (k + 1) (0, 1) ++ List.replicate (n - (k + 1)) (0, 0) := by
  rw [List.set_append_right _ _ (by simp), List.length_replicate, Nat.sub_self, show n - k = (n - (k + 1)) + 1 by omega, List.replicate_succ, List.set_cons_zero, List.replicate_succ' (n := k), List.append_assoc]
  rfl

end Go.Proofs.Try.Am

namespace Bq

/-- A row left out. -/
def skp (i r : Nat) : Nat := if r < i then r else r + 1
def sgn : Nat → Rat
  | 0 => 1
  | n + 1 => - sgn n
/-- Columns, rows in them. -/
def det : Nat → (Nat → Nat → Rat) → Rat
  | 0, _ => 1
  | n + 1, M => Ya (fun i => sgn i * M 0 i * det n (fun c r => M (c + 1) (skp i r))) (n + 1)

theorem skp_lt {i r n : Nat} (h : r < n) : skp i r < n + 1 := by rw [skp]; split <;> omega
theorem Wy : ∀ (n : Nat) {M N : Nat → Nat → Rat}, (∀ c r, c < n → r < n → M c r = N c r) → det n M = det n N
  | 0, _, _, _ => rfl
  | n + 1, M, N, h => by
    rw [det, det]
    refine Zy fun i hi => ?_
    rw [h 0 i (by omega) hi, Wy n fun c r hc hr => h (c + 1) (skp i r) (by omega) (skp_lt hr)]
/-- The first column as a sum. -/
theorem det_lin {n : Nat} {M : Nat → Nat → Rat} (a b : Nat → Rat) (s : Rat) (h : ∀ r, r < n + 1 → M 0 r = a r + s * b r) :
    det (n + 1) M = det (n + 1) (fun c => if c = 0 then a else M c) + s * det (n + 1) (fun c => if c = 0 then b else M c) := by
  simp only [det, if_true]
  rw [← Vc, ← sumTo_add]
  refine Zy fun i hi => ?_
  simp only [show ∀ c, (c + 1 = 0) = False from fun c => by simp, if_false]
  rw [h i hi]; grind
theorem Vi {g : Nat → Rat} {n : Nat} (h : ∀ i, i < n → g i = 0) : Ya g n = 0 := by
  induction n with
  | zero => rfl
  | succ n ih => rw [Ya, ih fun i hi => h i (by omega), h n (by omega)]; exact Rat.zero_add _
theorem det_zero {n : Nat} {M : Nat → Nat → Rat} (h : ∀ r, r < n + 1 → M 0 r = 0) : det (n + 1) M = 0 := by
  rw [det]
  refine Vi fun i hi => ?_
  rw [h i hi]; grind
theorem sgn_sq (a : Nat) : sgn a * sgn a = 1 := by
  induction a with
  | zero => rw [sgn, Rat.mul_one]
  | succ a ih => rw [sgn]; grind
/-- All pairs of different ones, two by two. -/
theorem sum_pairs (t : Nat → Nat → Rat) : ∀ N, Ya (fun i => Ya (fun j => t i j) N) (N + 1) = Ya (fun i => Ya (fun j => t i j + t j (i - 1)) i) (N + 1)
  | 0 => rfl
  | N + 1 => by
    have ih := sum_pairs t N
    rw [Ya]
    have e : Ya (fun i => Ya (fun j => t i j) (N + 1)) (N + 1) = Ya (fun i => Ya (fun j => t i j) N + t i N) (N + 1) := Zy fun i hi => rfl
    rw [e, sumTo_add, ih]
    conv => rhs; rw [Ya]
    rw [sumTo_add (fun j => t (N + 1) j) (fun j => t j (N + 1 - 1)) (N + 1), show N + 1 - 1 = N from rfl]
    grind
theorem skp_skp {i j r : Nat} (h : j < i) : skp i (skp j r) = skp j (skp (i - 1) r) := by
  simp only [skp]
  by_cases h1 : r < j
  · simp [h1, show r < i by omega, show r < i - 1 by omega]
  · by_cases h2 : r < i - 1
    · simp [h1, h2, show r + 1 < i by omega]
    · simp [h1, h2, show ¬ r + 1 < i by omega, show ¬ r + 1 < j by omega]
def swp (a : Nat) (c : Nat) : Nat := if c = a then a + 1 else if c = a + 1 then a else c
theorem det_two (n : Nat) (M : Nat → Nat → Rat) : det (n + 2) M = Ya (fun i => Ya (fun j => sgn i * sgn j * (M 0 i * M 1 j - M 0 j * M 1 i) * det n (fun c r => M (c + 2) (skp i (skp j r)))) i) (n + 2) := by
  have e1 : det (n + 2) M = Ya (fun i => Ya (fun j => sgn i * M 0 i * (sgn j * M 1 (skp i j) * det n (fun c r => M (c + 2) (skp i (skp j r))))) (n + 1)) (n + 2) := by
    rw [det]
    refine Zy fun i hi => ?_
    rw [det, Vc]
  rw [e1, sum_pairs]
  refine Zy fun i hi => Zy fun j hj => ?_
  have h1 : skp i j = j := by rw [skp, if_pos hj]
  have h2 : skp j (i - 1) = i := by rw [skp, if_neg (by omega)]; omega
  have h3 : det n (fun c r => M (c + 2) (skp j (skp (i - 1) r))) = det n (fun c r => M (c + 2) (skp i (skp j r))) := Wy n fun c r hc hr => by rw [skp_skp hj]
  have h4 : sgn i = - sgn (i - 1) := by
    obtain ⟨i, rfl⟩ : ∃ k, i = k + 1 := ⟨i - 1, by omega⟩
    rfl
  rw [h1, h2, h3, h4]; grind
theorem det_swp : ∀ (a n : Nat) (M : Nat → Nat → Rat), a + 1 < n → det n (fun c => M (swp a c)) = - det n M
  | 0, n, M, h => by
    obtain ⟨n, rfl⟩ : ∃ k, n = k + 2 := ⟨n - 2, by omega⟩
    rw [det_two, det_two]
    have e : - Ya (fun i => Ya (fun j => sgn i * sgn j * (M 0 i * M 1 j - M 0 j * M 1 i) * det n (fun c r => M (c + 2) (skp i (skp j r)))) i) (n + 2) = Ya (fun i => Ya (fun j => sgn i * sgn j * (M 1 i * M 0 j - M 1 j * M 0 i) * det n (fun c r => M (c + 2) (skp i (skp j r)))) i) (n + 2) := by
      have := Vc (-1) (fun i => Ya (fun j => sgn i * sgn j * (M 0 i * M 1 j - M 0 j * M 1 i) * det n (fun c r => M (c + 2) (skp i (skp j r)))) i) (n + 2)
      rw [show ∀ x : Rat, -x = -1 * x from fun x => by grind, ← this]
      refine Zy fun i hi => ?_
      rw [← Vc]
      refine Zy fun j hj => ?_
      grind
    rw [e]
    refine Zy fun i hi => Zy fun j hj => ?_
    have e0 : swp 0 0 = 1 := rfl
    have e1 : swp 0 1 = 0 := rfl
    have e2 : ∀ c, swp 0 (c + 2) = c + 2 := fun c => by simp [swp]
    simp only [e0, e1, e2]
  | a + 1, n, M, h => by
    obtain ⟨n, rfl⟩ : ∃ k, n = k + 1 := ⟨n - 1, by omega⟩
    rw [det, det]
    have := Vc (-1) (fun i => sgn i * M 0 i * det n (fun c r => M (c + 1) (skp i r))) (n + 1)
    rw [show ∀ x : Rat, -x = -1 * x from fun x => by grind, ← this]
    refine Zy fun i hi => ?_
    have e0 : swp (a + 1) 0 = 0 := by simp [swp]
    have e1 : ∀ c, swp (a + 1) (c + 1) = swp a c + 1 := fun c => by
      simp only [swp]
      by_cases h1 : c = a
      · simp [h1]
      · by_cases h2 : c = a + 1
        · simp [h2]
        · simp [h1, h2]
    have ih := det_swp a n (fun c r => M (c + 1) (skp i r)) (by omega)
    simp only [e0, e1]
    rw [ih]; grind
/-- Two columns alike. -/
theorem det_same : ∀ (n t : Nat) (M : Nat → Nat → Rat), t + 1 < n → (∀ r, r < n → M 0 r = M (t + 1) r) → det n M = 0
  | 0, t, M, h, _ => by omega
  | n + 1, 0, M, h, he => by
    have h1 := det_swp 0 (n + 1) M h
    have h2 : det (n + 1) (fun c => M (swp 0 c)) = det (n + 1) M := Wy _ fun c r hc hr => by
      simp only [swp]
      by_cases h3 : c = 0
      · subst h3; simp only [if_true]; exact (he r hr).symm
      · by_cases h4 : c = 0 + 1
        · subst h4; simp only [show ¬ (0 + 1 = 0) by omega, if_false, if_true]; exact he r hr
        · simp only [h3, h4, if_false]
    rw [h2] at h1
    grind
  | n + 1, t + 1, M, h, he => by
    have h1 := det_swp 0 (n + 1) M (by omega)
    have h2 : det (n + 1) (fun c => M (swp 0 c)) = 0 := by
      rw [det]
      refine Vi fun i hi => ?_
      have h0 : det n (fun c r => M (swp 0 (c + 1)) (skp i r)) = 0 := by
        refine det_same n t _ (by omega) fun r hr => ?_
        have e1 : swp 0 (0 + 1) = 0 := rfl
        have e2 : swp 0 (t + 1 + 1) = t + 1 + 1 := by simp [swp]
        simp only [e1, e2]
        exact he _ (skp_lt hr)
      rw [h0]; grind
    rw [h2] at h1
    grind
/-- One number below a column's head alone. -/
theorem det_last {n : Nat} {M : Nat → Nat → Rat} (h : ∀ r, r < n → M 0 r = 0) : det (n + 1) M = sgn n * M 0 n * det n (fun c r => M (c + 1) r) := by
  rw [det, Ya, Vi fun i hi => by rw [h i hi]; grind, Rat.zero_add]
  rw [Wy n fun c r hc hr => by rw [skp, if_pos hr]]
/-- A column brought to the head. -/
def bring (t c : Nat) : Nat := if c = 0 then t else if c ≤ t then c - 1 else c
theorem det_bring : ∀ (t n : Nat) (M : Nat → Nat → Rat), t < n → det n (fun c => M (bring t c)) = sgn t * det n M
  | 0, n, M, h => by
    rw [sgn, Rat.one_mul]
    refine Wy n fun c r hc hr => ?_
    have : bring 0 c = c := by simp only [bring]; split <;> (try split) <;> omega
    rw [this]
  | t + 1, n, M, h => by
    have h1 := det_bring t n (fun c => M (swp t c)) (by omega)
    have h2 := det_swp t n M h
    rw [h2] at h1
    have h3 : det n (fun c => M (bring (t + 1) c)) = det n (fun c => M (swp t (bring t c))) := Wy n fun c r hc hr => by
      have : bring (t + 1) c = swp t (bring t c) := by
        simp only [bring, swp]
        by_cases h0 : c = 0
        · simp [h0]
        · by_cases h4 : c ≤ t
          · simp [h0, h4, show c ≤ t + 1 by omega, show c - 1 ≠ t by omega, show c - 1 ≠ t + 1 by omega]
          · by_cases h5 : c = t + 1
            · simp [h5]
            · simp [h0, h4, show ¬ c ≤ t + 1 by omega, show c ≠ t by omega, h5]
      rw [this]
    rw [h3, h1, sgn]; grind

/-! Sizes. -/
def Zq (b : Nat) (q : Rat) : Prop := ∃ z : Int, q = (z : Rat) ∧ z.natAbs ≤ b
theorem Zq.add {a b : Nat} {p q : Rat} (h1 : Zq a p) (h2 : Zq b q) : Zq (a + b) (p + q) := by
  obtain ⟨x, rfl, hx⟩ := h1
  obtain ⟨y, rfl, hy⟩ := h2
  exact ⟨x + y, (Rat.intCast_add x y).symm, by omega⟩
theorem Zq.mul {a b : Nat} {p q : Rat} (h1 : Zq a p) (h2 : Zq b q) : Zq (a * b) (p * q) := by
  obtain ⟨x, rfl, hx⟩ := h1
  obtain ⟨y, rfl, hy⟩ := h2
  exact ⟨x * y, (Rat.intCast_mul x y).symm, by rw [Int.natAbs_mul]; exact Nat.mul_le_mul hx hy⟩
theorem Zq.mono {a b : Nat} {p : Rat} (h : Zq a p) (hab : a ≤ b) : Zq b p := by
  obtain ⟨x, e, hx⟩ := h
  exact ⟨x, e, by omega⟩
theorem Zq.zero (b : Nat) : Zq b 0 := ⟨0, rfl, by simp⟩
theorem Zq.sgn (i : Nat) : Zq 1 (sgn i) := by
  induction i with
  | zero => exact ⟨1, rfl, by decide⟩
  | succ i ih =>
    obtain ⟨x, e, hx⟩ := ih
    refine ⟨-x, ?_, by omega⟩
    rw [Bq.sgn, e, Rat.intCast_neg]
theorem Zq.sum {b : Nat} {g : Nat → Rat} {n : Nat} (h : ∀ i, i < n → Zq b (g i)) : Zq (n * b) (Ya g n) := by
  induction n with
  | zero => exact Zq.zero _
  | succ n ih =>
    rw [Nat.succ_mul]
    exact (ih fun i hi => h i (by omega)).add (h n (by omega))
/-- Bounds of determinants from those of their columns. -/
theorem det_Zq {b0 F : Nat} {n : Nat} {M : Nat → Nat → Rat} (h0 : ∀ r, r < n + 1 → Zq b0 (M 0 r)) (hF : ∀ i, i < n + 1 → Zq F (det n (fun c r => M (c + 1) (skp i r)))) : Zq ((n + 1) * (b0 * F)) (det (n + 1) M) := by
  rw [det]
  refine Zq.sum fun i hi => ?_
  have := ((Zq.sgn i).mul (h0 i hi)).mul (hF i hi)
  rwa [Nat.one_mul] at this
/-- Of noughts and ones. -/
def fac01 : Nat → Nat
  | 0 => 1
  | 1 => 1
  | 2 => 1
  | n + 3 => (n + 3) * fac01 (n + 2)
def is01 (q : Rat) : Prop := q = 0 ∨ q = 1
theorem is01.zq {q : Rat} (h : is01 q) : Zq 1 q := by
  rcases h with rfl | rfl
  · exact ⟨0, rfl, by decide⟩
  · exact ⟨1, rfl, by decide⟩
theorem det_01 : ∀ (n : Nat) {M : Nat → Nat → Rat}, (∀ c r, c < n → r < n → is01 (M c r)) → Zq (fac01 n) (det n M)
  | 0, M, _ => ⟨1, rfl, by decide⟩
  | 1, M, h => by
    have : det 1 M = M 0 0 := by
      simp only [det, Ya, sgn]; grind
    rw [this]
    exact (h 0 0 (by omega) (by omega)).zq
  | 2, M, h => by
    have e : det 2 M = M 0 0 * M 1 1 - M 0 1 * M 1 0 := by
      simp only [det, Ya, sgn, skp]; simp only [show ¬ (0 < 0) by omega, show 0 < 1 by omega, if_true, if_false]; grind
    rw [e, fac01]
    rcases h 0 0 (by omega) (by omega) with h1 | h1 <;> rcases h 0 1 (by omega) (by omega) with h2 | h2 <;> rcases h 1 0 (by omega) (by omega) with h3 | h3 <;> rcases h 1 1 (by omega) (by omega) with h4 | h4 <;> rw [h1, h2, h3, h4]
    all_goals first
      | exact ⟨0, by decide +kernel, by decide⟩
      | exact ⟨1, by decide +kernel, by decide⟩
      | exact ⟨-1, by decide +kernel, by decide⟩
  | n + 3, M, h => by
    have := det_Zq (b0 := 1) (F := fac01 (n + 2)) (n := n + 2) (M := M) (fun r hr => (h 0 r (by omega) hr).zq) fun i hi => det_01 (n + 2) fun c r hc hr => h (c + 1) (skp i r) (by omega) (skp_lt hr)
    rw [Nat.one_mul] at this
    exact this
end Bq

namespace Bq

/-! Sums. -/
theorem sumTo_pick {n t : Nat} (g : Nat → Rat) (h : t < n) : Ya (fun c => if c = t then g c else 0) n = g t := by
  induction n with
  | zero => omega
  | succ n ih =>
    rw [Ya]
    by_cases h1 : t = n
    · subst h1
      rw [Vi fun i hi => by rw [if_neg (by omega)], if_pos rfl, Rat.zero_add]
    · rw [ih (by omega), if_neg (by omega), Rat.add_zero]
/-- A column that is others together. -/
theorem det_comb {n : Nat} (a : Nat → Nat → Rat) (s : Nat → Rat) (e : Nat → Rat) : ∀ (J : Nat) {M : Nat → Nat → Rat}, (∀ r, r < n + 1 → M 0 r = Ya (fun t => s t * a t r) J + e r) →
    (∀ t, t < J → s t = 0 ∨ det (n + 1) (fun c => if c = 0 then a t else M c) = 0) → det (n + 1) M = det (n + 1) (fun c => if c = 0 then e else M c)
  | 0, M, h, _ => Wy _ fun c r hc hr => by
    by_cases h0 : c = 0
    · subst h0; rw [if_pos rfl, h r hr, Ya, Rat.zero_add]
    · rw [if_neg h0]
  | J + 1, M, h, hz => by
    have h1 := det_lin (M := M) (fun r => Ya (fun t => s t * a t r) J + e r) (a J) (s J) fun r hr => by rw [h r hr, Ya]; grind
    have h2 : s J * det (n + 1) (fun c => if c = 0 then a J else M c) = 0 := by
      rcases hz J (by omega) with h3 | h3 <;> rw [h3] <;> grind
    rw [h2, Rat.add_zero] at h1
    rw [h1]
    have h4 : ∀ v : Nat → Rat, (fun c => if c = 0 then v else (fun c => if c = 0 then (fun r => Ya (fun t => s t * a t r) J + e r) else M c) c) = fun c => if c = 0 then v else M c := fun v => by
      funext c
      by_cases h0 : c = 0 <;> simp [h0]
    have ih := det_comb a s e J (M := fun c => if c = 0 then (fun r => Ya (fun t => s t * a t r) J + e r) else M c) (fun r hr => by simp) fun t ht => by
      rcases hz t (by omega) with h3 | h3
      · exact .inl h3
      · refine .inr ?_
        rw [h4]; exact h3
    rw [ih, h4]
theorem det_scale {n : Nat} (M : Nat → Nat → Rat) (a : Nat → Rat) (s : Rat) : det (n + 1) (fun c => if c = 0 then (fun r => s * a r) else M c) = s * det (n + 1) (fun c => if c = 0 then a else M c) := by
  have h := det_lin (n := n) (M := fun c => if c = 0 then (fun r => s * a r) else M c) (fun _ => 0) a s fun r hr => by simp [Rat.zero_add]
  have e1 : ∀ v : Nat → Rat, (fun c => if c = 0 then v else (fun c => if c = 0 then (fun r => s * a r) else M c) c) = fun c => if c = 0 then v else M c := fun v => by
    funext c
    by_cases h0 : c = 0 <;> simp [h0]
  rw [e1, e1] at h
  rw [h, det_zero (fun r hr => rfl), Rat.zero_add]

/-- What holds behind j steps: the rows stand as at first, but in another order. -/
structure GI (m : Nat) (T0 : Xt) (j : Nat) (S : Xt) (π : Nat → Nat) : Prop where
  lt : ∀ i, i < m → π i < m
  jm : j ≤ m
  row : ∀ i c, i < m → T0 (π i) c = Ya (fun t => T0 (π i) t * S t c) j + (if j ≤ i then S i c else 0)
  unit : ∀ i t, i < m → t < j → S i t = if i = t then 1 else 0
  dt : det j (fun c r => T0 (π r) c) ≠ 0
theorem GI.init (m : Nat) (T0 : Xt) : GI m T0 0 T0 id where
  lt i hi := hi
  jm := Nat.zero_le _
  row i c hi := by rw [Ya, if_pos (Nat.zero_le _), Rat.zero_add]; rfl
  unit i t hi ht := by omega
  dt := by rw [det]; decide
section
variable {m j : Nat} {T0 S : Xt} {π : Nat → Nat} (g : GI m T0 j S π)
include g
/-- A number below is a minor through the one before. -/
theorem GI.minor {i c : Nat} (hi : i < m) (hj : j ≤ i) : det (j + 1) (fun c' r => T0 (if r < j then π r else π i) (if c' = 0 then c else c' - 1)) = sgn j * S i c * det j (fun c r => T0 (π r) c) := by
  have h := det_comb (n := j) (fun t r => T0 (if r < j then π r else π i) t) (fun t => S t c) (fun r => if r < j then 0 else S i c) j (M := fun c' r => T0 (if r < j then π r else π i) (if c' = 0 then c else c' - 1)) (fun r hr => by
    simp only [if_true]
    by_cases h1 : r < j
    · simp only [h1, if_true]
      rw [g.row r c (by have := g.jm; omega), if_neg (by omega)]
      congr 1
      exact Zy fun t ht => Rat.mul_comm _ _
    · simp only [h1, if_false]
      rw [g.row i c hi, if_pos hj]
      congr 1
      exact Zy fun t ht => Rat.mul_comm _ _) fun t ht => .inr (by
    refine det_same _ t _ (by omega) fun r hr => ?_
    simp)
  rw [h, det_last (fun r hr => by simp only [if_true, hr])]
  simp only [if_true, Nat.lt_irrefl, if_false]
  congr 1
  refine Wy _ fun c' r hc hr => ?_
  simp [hr]
/-- A number of a pivot's row, the same. -/
theorem GI.cramer {t c : Nat} (ht : t < j) : det j (fun c' r => T0 (π r) (if c' = 0 then c else bring t c')) = S t c * (sgn t * det j (fun c r => T0 (π r) c)) := by
  have hb := det_bring t j (fun c r => T0 (π r) c) ht
  obtain ⟨n, rfl⟩ : ∃ n, j = n + 1 := ⟨j - 1, by omega⟩
  have hbr : ∀ s, s < n + 1 → s ≠ t → ∃ c', c' + 1 < n + 1 ∧ bring t (c' + 1) = s := fun s hs hst => by
    by_cases h1 : s < t
    · exact ⟨s, by omega, by simp [bring, show s + 1 ≤ t by omega]⟩
    · exact ⟨s - 1, by omega, by simp only [bring]; rw [if_neg (by omega), if_neg (by omega)]; omega⟩
  have h := det_comb (n := n) (fun s r => T0 (π r) s) (fun s => if s = t then 0 else S s c) (fun r => S t c * T0 (π r) t) (n + 1) (M := fun c' r => T0 (π r) (if c' = 0 then c else bring t c')) (fun r hr => by
    simp only [if_true]
    rw [g.row r c (by have := g.jm; omega), if_neg (by omega), Rat.add_zero]
    have e : Ya (fun s => T0 (π r) s * S s c) (n + 1) = Ya (fun s => (if s = t then 0 else S s c) * T0 (π r) s) (n + 1) + Ya (fun s => if s = t then S s c * T0 (π r) s else 0) (n + 1) := by
      rw [← sumTo_add]
      refine Zy fun s hs => ?_
      by_cases h1 : s = t
      · simp only [h1, if_true]; grind
      · simp only [h1, if_false]; grind
    rw [e, sumTo_pick _ ht]) fun s hs => by
    by_cases h1 : s = t
    · exact .inl (by simp [h1])
    · refine .inr ?_
      obtain ⟨c', h2, h3⟩ := hbr s hs h1
      refine det_same _ c' _ h2 fun r hr => ?_
      simp [h3]
  rw [h, det_scale]
  congr 1
end
theorem swapT_at (a p : Nat) (T : Xt) : Wj a p T a = T p := by simp [Wj]
theorem GI.step {m j p : Nat} {T0 S : Xt} {π : Nat → Nat} (g : GI m T0 j S π) (hp : p < m) (hjp : j ≤ p) (h0 : S p j ≠ 0) :
    ∃ π', GI m T0 (j + 1) (Vh j (Vp j (Wj j p S))) π' := by
  have hj : j < m := by omega
  -- the rows changed
  obtain ⟨π', hπ⟩ : ∃ π' : Nat → Nat, π' = fun i => if i = j then π p else if i = p then π j else π i := ⟨_, rfl⟩
  obtain ⟨S', hS⟩ : ∃ S', S' = Wj j p S := ⟨_, rfl⟩
  have hS1 : S' j = S p := by rw [hS, swapT_at]
  have hS2 : ∀ t, t < j → S' t = S t := fun t ht => by rw [hS, Wj]; simp only [show t ≠ j by omega, show t ≠ p by omega, if_false]
  have hπ2 : ∀ t, t < j → π' t = π t := fun t ht => by rw [hπ]; simp only [show t ≠ j by omega, show t ≠ p by omega, if_false]
  have hsel : ∀ i, i < m → ∃ i', i' < m ∧ π' i = π i' ∧ S' i = S i' ∧ (j ≤ i ↔ j ≤ i') ∧ (i < j → i' = i) := fun i hi => by
    by_cases h1 : i = j
    · exact ⟨p, hp, by rw [hπ]; simp [h1], by rw [h1, hS1], by omega, by omega⟩
    · by_cases h2 : i = p
      · refine ⟨j, hj, by rw [hπ]; simp only [h2, if_true]; rw [if_neg (by omega)], ?_, by omega, by omega⟩
        rw [hS, Wj]; simp only [h1, if_false]; rw [if_pos h2]
      · refine ⟨i, hi, by rw [hπ]; simp [h1, h2], ?_, Iff.rfl, fun _ => rfl⟩
        rw [hS, Wj]; simp [h1, h2]
  have g' : GI m T0 j S' π' := by
    refine ⟨fun i hi => ?_, g.jm, fun i c hi => ?_, fun i t hi ht => ?_, ?_⟩
    · obtain ⟨i', h1, h2, -⟩ := hsel i hi
      rw [h2]; exact g.lt i' h1
    · obtain ⟨i', h1, h2, h3, h4, -⟩ := hsel i hi
      rw [h2, h3, g.row i' c h1]
      congr 1
      · exact Zy fun t ht => by rw [hS2 t ht]
      · by_cases h5 : j ≤ i
        · rw [if_pos h5, if_pos (h4.1 h5)]
        · rw [if_neg h5, if_neg fun h => h5 (h4.2 h)]
    · obtain ⟨i', h1, h2, h3, h4, h5⟩ := hsel i hi
      rw [h3, g.unit i' t h1 ht]
      by_cases h6 : i < j
      · rw [h5 h6]
      · have := h4.1 (by omega)
        rw [if_neg (by omega), if_neg (by omega)]
    · have : det j (fun c r => T0 (π' r) c) = det j (fun c r => T0 (π r) c) := Wy _ fun c r hc hr => by rw [hπ2 r hr]
      rw [this]; exact g.dt
  have hv : S' j j ≠ 0 := by rw [hS1]; exact h0
  rw [← hS]
  clear hsel hπ2 hS2 hS1 hS hπ g h0
  refine ⟨π', g'.lt, by omega, fun i c hi => ?_, fun i t hi ht => ?_, ?_⟩
  · -- rows
    have r1 := g'.row i c hi
    have r2 := g'.row i j hi
    obtain ⟨v, hvv⟩ : ∃ v, S' j j = v := ⟨_, rfl⟩
    rw [hvv] at hv
    obtain ⟨q, hq⟩ : ∃ q, S' j c / v = q := ⟨_, rfl⟩
    have hqv : S' j c = q * v := by rw [← hq]; exact (Rat.div_mul_cancel hv).symm
    have e1 : ∀ i', Vh j (Vp j S') i' c = if i' = j then q else S' i' c - S' i' j * q := fun i' => by
      simp only [Vh, Vp, if_true, hvv, hq]
      by_cases h1 : i' = j
      · simp only [h1, if_true]
      · simp only [h1, if_false]
    rw [Ya]
    have e2 : Ya (fun t => T0 (π' i) t * Vh j (Vp j S') t c) j = Ya (fun t => T0 (π' i) t * S' t c) j + (-q) * Ya (fun t => T0 (π' i) t * S' t j) j := by
      rw [← Vc, ← sumTo_add]
      refine Zy fun t ht => ?_
      rw [e1, if_neg (by omega)]; grind
    rw [e2, e1 j, if_pos rfl, e1 i]
    generalize Ya (fun t => T0 (π' i) t * S' t c) j = A at *
    generalize Ya (fun t => T0 (π' i) t * S' t j) j = B at *
    rcases Nat.lt_trichotomy i j with h1 | h1 | h1
    · rw [if_neg (by omega)] at r1 r2
      rw [if_neg (by omega)]
      rw [r1, r2]; grind
    · subst h1
      rw [if_pos (Nat.le_refl _)] at r1 r2
      rw [if_neg (by omega)]
      rw [hvv] at r2
      rw [r1, r2, hqv]; grind
    · rw [if_pos (by omega)] at r1 r2
      rw [if_pos (by omega), if_neg (by omega)]
      rw [r1, r2]; grind
  · -- unit
    simp only [Vh, Vp, if_true]
    by_cases h1 : t = j
    · subst h1
      by_cases h2 : i = t
      · subst h2
        rw [if_pos rfl, if_pos rfl, Rat.div_def, Rat.mul_inv_cancel _ hv]
      · rw [if_neg h2, if_neg h2, if_neg h2, Rat.div_def, Rat.mul_inv_cancel _ hv]; grind
    · have u1 := g'.unit j t hj (by omega)
      rw [if_neg (by omega)] at u1
      have u2 := g'.unit i t hi (by omega)
      by_cases h2 : i = j
      · subst h2
        rw [if_pos rfl, u1, if_neg (by omega), Rat.div_def, Rat.zero_mul]
      · rw [if_neg h2, if_neg h2, if_neg h2, u1, u2, Rat.div_def, Rat.zero_mul, Rat.mul_zero]; grind
  · -- the determinant
    have hm := g'.minor (i := j) (c := j) hj (Nat.le_refl _)
    have hb := det_bring j (j + 1) (fun c r => T0 (π' r) c) (by omega)
    have e : det (j + 1) (fun c' r => T0 (if r < j then π' r else π' j) (if c' = 0 then j else c' - 1)) = det (j + 1) (fun c r => T0 (π' r) (bring j c)) := Wy _ fun c r hc hr => by
      have h1 : (if r < j then π' r else π' j) = π' r := by
        by_cases h2 : r < j
        · rw [if_pos h2]
        · rw [if_neg h2, show r = j by omega]
      have h3 : (if c = 0 then j else c - 1) = bring j c := by
        simp only [bring]
        by_cases h0 : c = 0
        · rw [if_pos h0, if_pos h0]
        · rw [if_neg h0, if_neg h0, if_pos (by omega)]
      rw [h1, h3]
    rw [e, hb] at hm
    intro hc
    rw [hc, Rat.mul_zero] at hm
    rcases Rat.mul_eq_zero.1 hm.symm with h1 | h1
    · rcases Rat.mul_eq_zero.1 h1 with h2 | h2
      · have := sgn_sq j; rw [h2] at this; exact absurd this (by decide +kernel)
      · exact hv h2
    · exact g'.dt h1
theorem elim_gi {m : Nat} {T0 : Xt} : ∀ {j : Nat} {S : Xt}, Yv m T0 j = some S → ∃ π, GI m T0 j S π
  | 0, S, h => by cases h; exact ⟨id, GI.init m _⟩
  | j + 1, S, h => by
    rw [Yv] at h
    cases hr : Yv m T0 j with
    | none => rw [hr] at h; cases h
    | some S1 =>
      rw [hr] at h
      simp only [Option.bind_some, Xu] at h
      obtain ⟨π, g⟩ := elim_gi hr
      cases hf : findP m j S1 with
      | none => rw [hf] at h; cases h
      | some p =>
        rw [hf] at h
        cases h
        obtain ⟨h1, h2, h3, _⟩ := findP_some hf
        exact g.step h1 h2 h3

/-! How great. -/
theorem Zq.rp {b : Nat} {D z : Int} {q : Rat} {s : Rat} (hD : D ≠ 0) {N : Nat} (hN : 0 < N) (hs : Zq 1 s) (hq : Zq b (q * D * N * s)) (hss : s * s = 1) : ∃ x : Int, Rp (D.natAbs * N) x q ∧ x.natAbs ≤ b := by
  obtain ⟨y, hy, hyb⟩ := hq
  obtain ⟨u, hu, hub⟩ := hs
  have hD0 : 0 < D.natAbs := by omega
  have h1 : q * (D : Rat) * (N : Rat) = (y : Rat) * s := by
    rw [← hy]
    generalize q * (D : Rat) * (N : Rat) = A
    have : A * s * s = A * (s * s) := by grind
    rw [this, hss, Rat.mul_one]
  rcases Int.lt_or_le D 0 with h | h
  · refine ⟨-(y * u), ⟨Nat.mul_pos hD0 hN, ?_⟩, ?_⟩
    · have e : ((D.natAbs : Nat) : Rat) = -(D : Rat) := by
        rw [← Rat.intCast_natCast, ← Rat.intCast_neg]; congr 1; omega
      rw [Rat.natCast_mul, e, Rat.intCast_neg, Rat.intCast_mul, ← hu, ← h1]; grind
    · rw [Int.natAbs_neg, Int.natAbs_mul]
      exact Nat.le_trans (Nat.mul_le_mul hyb hub) (by omega)
  · refine ⟨y * u, ⟨Nat.mul_pos hD0 hN, ?_⟩, ?_⟩
    · have e : ((D.natAbs : Nat) : Rat) = (D : Rat) := by
        rw [← Rat.intCast_natCast]; congr 1; omega
      rw [Rat.natCast_mul, e, Rat.intCast_mul, ← hu, ← h1]; grind
    · rw [Int.natAbs_mul]
      exact Nat.le_trans (Nat.mul_le_mul hyb hub) (by omega)
/-- The parts of a state. -/
theorem GI.parts {P : Rat → Prop} {F : Nat → Nat} (hF : ∀ n M, (∀ c r, c < n → r < n → P (M c r)) → Zq (F n) (det n M)) {m k j N B X : Nat} {T0 S : Xt} {π : Nat → Nat} (g : GI m T0 j S π) (hjk : j ≤ k) (hN : 0 < N)
    (hP : ∀ i c, i < m → c < k → P (T0 i c)) (hR : ∀ i, i < m → Zq B (T0 i k * N)) (hX1 : ∀ n, n ≤ k → F n * N ≤ X) (hX2 : ∀ n, n ≤ k → (n + 1) * (B * F n) ≤ X) :
    ∃ D, 0 < D ∧ D ≤ F j * N ∧ ∀ i c, i < m → c ≤ k → ∃ x : Int, Rp D x (S i c) ∧ x.natAbs ≤ X := by
  have hj := g.jm
  obtain ⟨d, hd, hdb⟩ := hF j (fun c r => T0 (π r) c) fun c r hc hr => hP _ _ (g.lt r (by omega)) (by omega)
  have hd0 : d ≠ 0 := fun h => g.dt (by rw [hd, h]; rfl)
  refine ⟨d.natAbs * N, Nat.mul_pos (by omega) hN, Nat.mul_le_mul_right _ hdb, fun i c hi hc => ?_⟩
  by_cases hcj : c < j
  · -- a column that is done
    rw [g.unit i c hi hcj]
    have hX := hX1 j hjk
    have hdX : d.natAbs * N ≤ X := Nat.le_trans (Nat.mul_le_mul_right _ hdb) hX
    by_cases h1 : i = c
    · refine ⟨((d.natAbs * N : Nat) : Int), ⟨Nat.mul_pos (by omega) hN, ?_⟩, by rw [Int.natAbs_natCast]; exact hdX⟩
      rw [if_pos h1, Rat.one_mul, Rat.intCast_natCast]
    · refine ⟨0, ⟨Nat.mul_pos (by omega) hN, ?_⟩, by simp⟩
      rw [if_neg h1, Rat.zero_mul]; rfl
  by_cases hij : i < j
  · -- a pivot's row
    have hcr := g.cramer (c := c) hij
    rw [hd] at hcr
    obtain ⟨n, rfl⟩ : ∃ n, j = n + 1 := ⟨j - 1, by omega⟩
    have hbl : ∀ c', c' + 1 < n + 1 → bring i (c' + 1) < n + 1 := fun c' hc' => by
      simp only [bring]; split
      · omega
      · split <;> omega
    have key : Zq X (S i c * (d : Rat) * (N : Rat) * sgn i) := by
      have e : S i c * (d : Rat) * (N : Rat) * sgn i = (N : Rat) * det (n + 1) (fun c' r => T0 (π r) (if c' = 0 then c else bring i c')) := by rw [hcr]; grind
      rw [e]
      by_cases hck : c = k
      · subst hck
        have e2 : (N : Rat) * det (n + 1) (fun c' r => T0 (π r) (if c' = 0 then c else bring i c')) = det (n + 1) (fun c' => if c' = 0 then (fun r => (N : Rat) * T0 (π r) c) else fun r => T0 (π r) (bring i c')) := by
          rw [det_scale (fun c' r => T0 (π r) (bring i c')) (fun r => T0 (π r) c) (N : Rat)]
          congr 1
        rw [e2]
        refine (det_Zq (b0 := B) (F := F n) (fun r hr => ?_) fun i' hi' => hF n _ fun c' r hc' hr => ?_).mono (hX2 n (by omega))
        · simp only [if_true]; rw [Rat.mul_comm]; exact hR _ (g.lt r (by omega))
        · simp only [show ¬ (c' + 1 = 0) by omega, if_false]
          exact hP _ _ (g.lt _ (by have := skp_lt (i := i') hr; omega)) (by have := hbl c' (by omega); omega)
      · refine Zq.mono (Zq.mul ⟨(N : Int), (Rat.intCast_natCast N).symm, Nat.le_refl _⟩ (hF (n + 1) _ fun c' r hc' hr => ?_)) (by rw [Int.natAbs_natCast, Nat.mul_comm]; exact hX1 (n + 1) hjk)
        refine hP _ _ (g.lt r (by omega)) ?_
        by_cases h0 : c' = 0
        · rw [if_pos h0]; omega
        · rw [if_neg h0]
          obtain ⟨c', rfl⟩ : ∃ t, c' = t + 1 := ⟨c' - 1, by omega⟩
          have := hbl c' hc'; omega
    exact Zq.rp (z := 0) hd0 hN (Zq.sgn i) key (sgn_sq i)
  · -- a row below
    have hmn := g.minor (c := c) hi (by omega)
    rw [hd] at hmn
    have key : Zq X (S i c * (d : Rat) * (N : Rat) * sgn j) := by
      have e : S i c * (d : Rat) * (N : Rat) * sgn j = (N : Rat) * det (j + 1) (fun c' r => T0 (if r < j then π r else π i) (if c' = 0 then c else c' - 1)) := by rw [hmn]; grind
      rw [e]
      have hρ : ∀ r, (if r < j then π r else π i) < m := fun r => by
        split
        · exact g.lt r (by omega)
        · exact g.lt i hi
      by_cases hck : c = k
      · subst hck
        have e2 : (N : Rat) * det (j + 1) (fun c' r => T0 (if r < j then π r else π i) (if c' = 0 then c else c' - 1)) = det (j + 1) (fun c' => if c' = 0 then (fun r => (N : Rat) * T0 (if r < j then π r else π i) c) else fun r => T0 (if r < j then π r else π i) (c' - 1)) := by
          rw [det_scale (fun c' r => T0 (if r < j then π r else π i) (c' - 1)) (fun r => T0 (if r < j then π r else π i) c) (N : Rat)]
          congr 1
        rw [e2]
        refine (det_Zq (b0 := B) (F := F j) (fun r hr => ?_) fun i' hi' => hF j _ fun c' r hc' hr => ?_).mono (hX2 j hjk)
        · simp only [if_true]; rw [Rat.mul_comm]; exact hR _ (hρ r)
        · simp only [show ¬ (c' + 1 = 0) by omega, if_false]
          exact hP _ _ (hρ _) (by omega)
      · refine Zq.mono (Zq.mul ⟨(N : Int), (Rat.intCast_natCast N).symm, Nat.le_refl _⟩ (hF (j + 1) _ fun c' r hc' hr => ?_)) (by rw [Int.natAbs_natCast, Nat.mul_comm]; exact hX1 (j + 1) (by omega))
        refine hP _ _ (hρ r) ?_
        by_cases h0 : c' = 0
        · rw [if_pos h0]; omega
        · rw [if_neg h0]; omega
    exact Zq.rp (z := 0) hd0 hN (Zq.sgn j) key (sgn_sq j)
end Bq

namespace Bq

/-- Rows that come to nothing. -/
def Nul (m K : Nat) (T : Xt) (y : Nat → Rat) : Prop := ∀ i, i < m → Ya (fun c => T i c * y c) K = 0
theorem nul_swap {m K a p : Nat} {T : Xt} {y : Nat → Rat} (ha : a < m) (hp : p < m) : Nul m K (Wj a p T) y ↔ Nul m K T y := by
  have key : ∀ T : Xt, Nul m K T y → Nul m K (Wj a p T) y := fun T h i hi => by
    by_cases h1 : i = a
    · subst h1; rw [swapT_at]; exact h p hp
    · by_cases h2 : i = p
      · have : Wj a p T i = T a := by simp only [Wj, h1, if_false]; rw [if_pos h2]
        rw [this]; exact h a ha
      · have : Wj a p T i = T i := by simp only [Wj, h1, h2, if_false]
        rw [this]; exact h i hi
  refine ⟨fun h => ?_, key T⟩
  have h2 := key _ h
  have e : Wj a p (Wj a p T) = T := by
    funext i
    simp only [Wj]
    by_cases h1 : i = a
    · subst h1
      simp only [if_true]
      by_cases h3 : p = i
      · rw [if_pos h3, h3]
      · rw [if_neg h3]
    · simp only [h1, if_false]
      by_cases h3 : i = p
      · subst h3; simp
      · simp [h3]
  rwa [e] at h2
theorem nul_norm {m K a : Nat} {T : Xt} {y : Nat → Rat} (ha : a < m) (h0 : T a a ≠ 0) : Nul m K (Vp a T) y ↔ Nul m K T y := by
  have e : Ya (fun c => Vp a T a c * y c) K = (T a a)⁻¹ * Ya (fun c => T a c * y c) K := by
    rw [← Vc]
    refine Zy fun c hc => ?_
    simp only [Vp, if_true, Rat.div_def]; grind
  have e2 : ∀ i, i ≠ a → Ya (fun c => Vp a T i c * y c) K = Ya (fun c => T i c * y c) K := fun i hi => Zy fun c hc => by simp only [Vp, hi, if_false]
  constructor
  · intro h i hi
    by_cases h1 : i = a
    · subst h1
      have := h i hi
      rw [e] at this
      rcases Rat.mul_eq_zero.1 this with h2 | h2
      · have h3 := Rat.mul_inv_cancel _ h0
        rw [h2, Rat.mul_zero] at h3; exact absurd h3 (by decide +kernel)
      · exact h2
    · rw [← e2 i h1]; exact h i hi
  · intro h i hi
    by_cases h1 : i = a
    · subst h1; rw [e, h i hi, Rat.mul_zero]
    · rw [e2 i h1]; exact h i hi
theorem nul_elim {m K a : Nat} {T : Xt} {y : Nat → Rat} (ha : a < m) : Nul m K (Vh a T) y ↔ Nul m K T y := by
  have e : ∀ i, i ≠ a → Ya (fun c => Vh a T i c * y c) K = Ya (fun c => T i c * y c) K + (-(T i a)) * Ya (fun c => T a c * y c) K := fun i hi => by
    rw [← Vc, ← sumTo_add]
    refine Zy fun c hc => ?_
    simp only [Vh, hi, if_false]; grind
  have e2 : Ya (fun c => Vh a T a c * y c) K = Ya (fun c => T a c * y c) K := Zy fun c hc => by simp only [Vh, if_true]
  constructor
  · intro h i hi
    have h2 := h a ha
    rw [e2] at h2
    by_cases h1 : i = a
    · subst h1; exact h2
    · have := h i hi
      rw [e i h1, h2, Rat.mul_zero, Rat.add_zero] at this; exact this
  · intro h i hi
    by_cases h1 : i = a
    · subst h1; rw [e2]; exact h i hi
    · rw [e i h1, h i hi, h a ha, Rat.mul_zero, Rat.add_zero]
theorem nul_run {m K : Nat} {T : Xt} {y : Nat → Rat} : ∀ {j : Nat} {S : Xt}, Yv m T j = some S → (Nul m K S y ↔ Nul m K T y)
  | 0, S, h => by cases h; exact Iff.rfl
  | j + 1, S, h => by
    rw [Yv] at h
    cases hr : Yv m T j with
    | none => rw [hr] at h; cases h
    | some S1 =>
      rw [hr] at h
      simp only [Option.bind_some, Xu] at h
      cases hf : findP m j S1 with
      | none => rw [hf] at h; cases h
      | some p =>
        rw [hf] at h
        cases h
        obtain ⟨h1, h2, h3, _⟩ := findP_some hf
        have hj : j < m := by omega
        rw [nul_elim hj, nul_norm hj (by rw [swapT_at]; exact h3), nul_swap hj h1]
        exact nul_run hr

/-- A solution; what may be added to one. -/
def Sol (m k : Nat) (T : Xt) (x : Nat → Rat) : Prop := ∀ i, i < m → Ya (fun c => T i c * x c) k = T i k
def Ker (m k : Nat) (T : Xt) (x : Nat → Rat) : Prop := ∀ i, i < m → Ya (fun c => T i c * x c) k = 0
def ext1 (k : Nat) (x : Nat → Rat) (s : Rat) : Nat → Rat := fun c => if c < k then x c else s
theorem sum_ext1 (T : Xt) (i k : Nat) (x : Nat → Rat) (s : Rat) : Ya (fun c => T i c * ext1 k x s c) (k + 1) = Ya (fun c => T i c * x c) k + T i k * s := by
  rw [Ya]
  have e : ext1 k x s k = s := by simp [ext1]
  simp only [e]
  congr 1
  exact Zy fun c hc => by simp only [ext1, hc, if_true]
theorem sol_nul {m k : Nat} {T : Xt} {x : Nat → Rat} : Sol m k T x ↔ Nul m (k + 1) T (ext1 k x (-1)) := by
  constructor
  · intro h i hi
    rw [sum_ext1, h i hi]; grind
  · intro h i hi
    have := h i hi
    rw [sum_ext1] at this
    generalize Ya (fun c => T i c * x c) k = A at *
    grind
theorem ker_nul {m k : Nat} {T : Xt} {x : Nat → Rat} : Ker m k T x ↔ Nul m (k + 1) T (ext1 k x 0) := by
  constructor
  · intro h i hi
    rw [sum_ext1, h i hi]; grind
  · intro h i hi
    have := h i hi
    rw [sum_ext1] at this
    generalize Ya (fun c => T i c * x c) k = A at *
    grind
theorem sum_unit {n t : Nat} (x : Nat → Rat) (h : t < n) : Ya (fun c => (if t = c then 1 else 0) * x c) n = x t := by
  rw [← sumTo_pick x h]
  refine Zy fun c hc => ?_
  by_cases h1 : t = c
  · rw [if_pos h1, if_pos h1.symm, Rat.one_mul]
  · rw [if_neg h1, if_neg (Ne.symm h1), Rat.zero_mul]
/-- **What solving tells.** -/
theorem solve_some {m k : Nat} {T : Xt} {xs : List Rat} (h : Xn m k T = some xs) : xs.length = k ∧ ∀ y, Sol m k T y ↔ ∀ t, t < k → y t = xs.getD t 0 := by
  refine ⟨solveT_len h, fun y => ?_⟩
  rw [Xn] at h
  cases hr : Yv m T k with
  | none => rw [hr] at h; cases h
  | some S =>
    rw [hr] at h
    simp only [Option.bind_some] at h
    split at h
    · cases h
    · next hrest =>
      cases h
      obtain ⟨π, g⟩ := elim_gi hr
      rw [sol_nul, ← nul_run hr, ← sol_nul]
      have hu : ∀ i, i < m → Ya (fun c => S i c * y c) k = if i < k then y i else 0 := fun i hi => by
        rw [Zy (g := fun c => (if i = c then 1 else 0) * y c) fun c hc => by rw [g.unit i c hi hc]]
        by_cases h1 : i < k
        · rw [if_pos h1, sum_unit y h1]
        · rw [if_neg h1]
          exact Vi fun c hc => by rw [if_neg (by omega), Rat.zero_mul]
      have hget : ∀ t, t < k → ((List.range k).map fun i => S i k).getD t 0 = S t k := fun t ht => by simp [List.getD, ht]
      constructor
      · intro h t ht
        rw [hget t ht]
        have := h t (by have := g.jm; omega)
        rw [hu t (by have := g.jm; omega), if_pos ht] at this
        exact this
      · intro h i hi
        rw [hu i hi]
        by_cases h1 : i < k
        · rw [if_pos h1, h i h1, hget i h1]
        · rw [if_neg h1]
          have : ¬ restT m k S = true := hrest
          rw [restT, List.any_eq_true] at this
          rcases Decidable.em (S i k = 0) with h2 | h2
          · exact h2.symm
          · exact absurd ⟨i, List.mem_range.2 hi, by simp [h2]; omega⟩ this
/-- None that stands alone. -/
theorem run_none {m k : Nat} {T : Xt} : ∀ {j : Nat}, j ≤ k → Yv m T j = none → ∃ δ, Ker m k T δ ∧ ∃ c, c < k ∧ δ c ≠ 0
  | 0, _, h => by cases h
  | j + 1, hj, h => by
    rw [Yv] at h
    cases hr : Yv m T j with
    | none => exact run_none (by omega) hr
    | some S =>
      rw [hr] at h
      simp only [Option.bind_some, Xu] at h
      cases hf : findP m j S with
      | some p => rw [hf] at h; cases h
      | none =>
        obtain ⟨π, g⟩ := elim_gi hr
        have h0 : ∀ i, i < m → j ≤ i → S i j = 0 := fun i hi hji => by
          rw [findP, List.find?_eq_none] at hf
          have := hf i (List.mem_range.2 hi)
          simpa [hji] using this
        refine ⟨fun c => if c < j then - S c j else if c = j then 1 else 0, ?_, j, by omega, by simp⟩
        rw [ker_nul, ← nul_run hr, ← ker_nul]
        intro i hi
        have e : ∀ K, K ≤ k → Ya (fun c => S i c * (if c < j then - S c j else if c = j then 1 else 0)) K = if j < K then Ya (fun c => S i c * (- S c j)) j + S i j else Ya (fun c => S i c * (- S c j)) K := by
          intro K
          induction K with
          | zero => intro _; rw [if_neg (by omega)]; rfl
          | succ K ih =>
            intro hK
            rw [Ya, ih (by omega)]
            rcases Nat.lt_trichotomy K j with h1 | h1 | h1
            · rw [if_neg (show ¬ j < K by omega), if_pos h1, if_neg (show ¬ j < K + 1 by omega)]; rfl
            · subst h1
              rw [if_neg (show ¬ K < K by omega), if_pos (show K < K + 1 by omega), if_neg (show ¬ K < K by omega), if_pos rfl, Rat.mul_one]
            · rw [if_pos (show j < K by omega), if_pos (show j < K + 1 by omega), if_neg (show ¬ K < j by omega), if_neg (show ¬ K = j by omega), Rat.mul_zero, Rat.add_zero]
        rw [e k (Nat.le_refl _), if_pos (by omega)]
        rw [Zy (g := fun c => (if i = c then 1 else 0) * (- S c j)) fun c hc => by rw [g.unit i c hi hc]]
        by_cases h1 : i < j
        · rw [sum_unit (fun c => - S c j) h1]; grind
        · rw [Vi fun c hc => by rw [if_neg (by omega), Rat.zero_mul], h0 i hi (by omega), Rat.zero_add]
theorem solve_none {m k : Nat} {T : Xt} (h : Xn m k T = none) : (∀ y, ¬ Sol m k T y) ∨ ∃ δ, Ker m k T δ ∧ ∃ c, c < k ∧ δ c ≠ 0 := by
  rw [Xn] at h
  cases hr : Yv m T k with
  | none => exact .inr (run_none (Nat.le_refl _) hr)
  | some S =>
    rw [hr] at h
    simp only [Option.bind_some] at h
    split at h
    · next hrest =>
      refine .inl fun y hy => ?_
      obtain ⟨π, g⟩ := elim_gi hr
      rw [sol_nul, ← nul_run hr, ← sol_nul] at hy
      rw [restT, List.any_eq_true] at hrest
      obtain ⟨i, hi, h1⟩ := hrest
      simp only [Bool.and_eq_true, decide_eq_true_eq] at h1
      have := hy i (List.mem_range.1 hi)
      rw [Vi fun c hc => by rw [g.unit i c (List.mem_range.1 hi) hc, if_neg (by omega), Rat.zero_mul]] at this
      exact h1.2 this.symm
    · cases h
theorem Sol.add {m k : Nat} {T : Xt} {x δ : Nat → Rat} (h : Sol m k T x) (hd : Ker m k T δ) (s : Rat) : Sol m k T (fun c => x c + s * δ c) := fun i hi => by
  rw [Zy (g := fun c => T i c * x c + s * (T i c * δ c)) fun c hc => by grind, sumTo_add, Vc, h i hi, hd i hi, Rat.mul_zero, Rat.add_zero]
/-- Systems with the same solutions are solved alike. -/
theorem solve_same {m m' k : Nat} {T T' : Xt} (h : ∀ y, Sol m k T y ↔ Sol m' k T' y) : Xn m k T = Xn m' k T' := by
  have key : ∀ {m m' k : Nat} {T T' : Xt} {xs : List Rat}, (∀ y, Sol m k T y ↔ Sol m' k T' y) → Xn m k T = some xs → Xn m' k T' = some xs := by
    intro m m' k T T' xs h hs
    obtain ⟨hl, hx⟩ := solve_some hs
    cases hs' : Xn m' k T' with
    | none =>
      exfalso
      have h1 : Sol m k T (fun t => xs.getD t 0) := (hx _).2 fun t ht => rfl
      have h2 := (h _).1 h1
      rcases solve_none hs' with h3 | ⟨δ, hk, c, hc, hd⟩
      · exact h3 _ h2
      · have h3 := (hx _).1 ((h _).2 (h2.add hk 1)) c hc
        exact hd (by grind)
    | some xs' =>
      obtain ⟨hl', hx'⟩ := solve_some hs'
      have h1 : Sol m k T (fun t => xs.getD t 0) := (hx _).2 fun t ht => rfl
      have h2 := (hx' _).1 ((h _).1 h1)
      congr 1
      apply List.ext_getElem (by omega)
      intro t h3 h4
      have := h2 t (by omega)
      simp only [List.getD, List.getElem?_eq_getElem h3, List.getElem?_eq_getElem h4, Option.getD_some] at this
      exact this.symm
  cases hs : Xn m k T with
  | some xs => exact (key h hs).symm
  | none =>
    cases hs' : Xn m' k T' with
    | none => rfl
    | some xs' =>
      have := key (fun y => (h y).symm) hs'
      rw [hs] at this; cases this
/-- More unknowns than rows: never. -/
theorem solve_wide {m k : Nat} {T : Xt} (h : m < k) : Xn m k T = none := by
  have key : ∀ j, m < j → Yv m T j = none := by
    intro j
    induction j with
    | zero => intro h; omega
    | succ j ih =>
      intro hj
      rw [Yv]
      by_cases h1 : m < j
      · rw [ih h1]; rfl
      · obtain rfl : j = m := by omega
        cases hr : Yv j T j with
        | none => rfl
        | some S =>
          simp only [Option.bind_some, Xu]
          have : findP j j S = none := find_none fun i hi => by simp; omega
          rw [this]; rfl
  rw [Xn, key k h]; rfl
end Bq

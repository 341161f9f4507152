/-
  bets: the corners, found.
  Printed by gen.py: the code of some functions, without what no step looks at; held against the program's own by the kernel.
  Printed by gen.py: the code of some functions, without what no step looks at; held against the program's own by the kernel.
  bets: copies of slices; slices held against each other.
  bets: Sound; that the program is awake.
  bets: whether a belief agrees.
  bets: scores and averages, in the program and in the reference.
  bets: averages of scores.
  bets: the reference's averages and scores.
  bets: determinants, by their first column. Plain Lean, no program.
  bets: elimination: what it keeps, how great its numbers are, what it tells. Plain Lean, no program.
  bets: what a solution is; what it means that there is none. Plain Lean, no program.
  bets: beliefs that agree; the least of a sum is at a corner. Plain Lean, no program.
  bets: the systems of bets are tame, all of them; the reference's rows. Plain Lean, no program.
-/
import Derived.Test.YtcmindinomacbaaPk8
import Derived.Test.YtcmindinomacbaaPk3
import Derived.Test.YtcmindinomacbaaProg
import Derived.KernelRfl
import Derived.Shelf.Abstract
import Derived.Test.YtcmindinomacbaaPk6
import Derived.Test.YtcmindinomacbaaPk5
import Derived.Test.YtcmindinomacbaaPk7
set_option linter.all false
namespace Go.Proofs.Try.Am
open Go.Am Bq
set_option maxRecDepth 100000
set_option maxHeartbeats 4000000

theorem loopEnd {a b : Nat} (h1 : ¬ (a : Int) < b) (h2 : a ≤ b) : b = a := by omega
theorem castI_snoc (L : List Nat) (k : Nat) : Ww (L ++ [k]) = Ww L ++ [(k : Int)] := by simp [Ww]

theorem s60_callW [Tabs Try.prog] {args : List Value} {h : Zh} {Q : Value → Zh → Prop} (hsz : args.length ≤ 103) (hk : AWS Try.prog 103 s60 (Zu Try.prog [.tmp 2] Q) (Zp 0 args) h) : ACall Try.prog 60 args h Q :=
  Yv Try.func60 rfl (enters_of Try.func60 (by kernel_rfl) rfl) rfl rfl (by decide) s60_strip s60_ok hsz hk
theorem corners_call [Tabs prog] {h : Zh} {n : Nat} {v : Value} {l : List (Int × Int)} (hv : PairSl h v l) (hval : Yu n l = true) (htame : TameAll n l) :
    ACall prog 60 [.agg #[Zd (n : Nat), v]] h fun r h' => Ext (fun _ => False) h h' ∧ CornSl h' r (Yb n l) ∧ ∀ b, Yf r = some b → h.length ≤ b := by
  obtain ⟨hn2, hn5, hl1, hl6, hok⟩ := Wr hval
  have hpn : (2 : Nat) ^ n ≤ 2 ^ 5 := Nat.pow_le_pow_right (by decide) hn5
  have hp32 : (2 : Nat) ^ n ≤ 32 := hpn
  have hpp := Nat.two_pow_pos n
  have hsh : shlV .i64 1 (n : Int) = ((2 ^ n : Nat) : Int) := by rw [shl1 (by omega), pow_cast]
  have hsub : subV .i64 ((2 ^ n : Nat) : Int) 1 = ((2 ^ n - 1 : Nat) : Int) := by rw [subN (by omega)]; omega
  obtain ⟨H, hH⟩ : ∃ H, H = h ++ [Blk.cells [Zd (n : Nat), v] 86 false] := ⟨_, rfl⟩
  have hE : Ext (fun _ => False) h H := by rw [hH]; exact Ext.app _ _ _
  have t1 : H[h.length]? = some (.cells [Zd (n : Nat), v] 86 false) := by rw [hH]; exact Yh _ _
  refine s60_callW (by simp) ?_
  simp only [s60]
  refine Ze fun N1 hN1 => ?_
  simp (maxSteps := 2000000) only [↓Za, ↓Zb, ↓Zc, vup, cond_true, cond_false, aop, Zg, Zp, ev, sput, Zf, Nat.reduceBEq, boxT, Yx]
  rw [← hH]
  refine hN1 [(1, .pointer (some ⟨h.length, 0, none⟩)), (2, .slice none 0 0)] _ _ ?_ (by simp (maxSteps := 2000000) only [vup, cond_true, cond_false, Nat.reduceBEq])
  clear hN1
  try clear N1
  refine Ze fun N2 hN2 => ?_
  simp (maxSteps := 2000000) only [↓Za, ↓Zb, ↓Zc, vup, cond_false, aop, Zg, ev, sput, Zf, Nat.reduceBEq]
  refine hN2 [(1, .pointer (some ⟨h.length, 0, none⟩)), (2, .slice none 0 0), (3, .slice none 0 0)] _ _ ?_ (by simp (maxSteps := 2000000) only [vup, cond_true, cond_false, Nat.reduceBEq])
  clear hN2
  try clear N2
  refine Zl fun Z hZ => ?_
  refine Ze fun N3 hN3 => ?_
  simp (maxSteps := 2000000) only [↓Za, ↓Zb, ↓Zc, vup, cond_false, aop, Zg, ev, sput, Zf, Nat.reduceBEq]
  refine hN3 [(1, .pointer (some ⟨h.length, 0, none⟩)), (2, .slice none 0 0), (3, .slice none 0 0), (4, .int .i64 1)] _ _ ?_ (by simp (maxSteps := 2000000) only [vup, cond_true, cond_false, Nat.reduceBEq])
  clear hN3
  try clear N3
  refine Zn ?_
  refine Zy fun Q hQ => ?_
  refine Xd (γ := Nat × Value × Zh) (fun s => 1 ≤ s.1 ∧ s.1 ≤ 2 ^ n ∧ CornSl s.2.2 s.2.1 (Wh n l (s.1 - 1)) ∧ Ext (fun _ => False) H s.2.2 ∧ ∀ b, Yf s.2.1 = some b → H.length ≤ b)
    (fun s => ([(1, .pointer (some ⟨h.length, 0, none⟩)), (2, .slice none 0 0), (3, s.2.1), (4, Zd (s.1 : Nat))], s.2.2)) (fun s => 2 ^ n - s.1) (1, .slice none 0 0, H) ⟨Nat.le_refl _, hpp, ⟨[], .inl ⟨rfl, rfl⟩, trivial⟩, Ext.refl _ _, fun b hb => by cases hb⟩ (by simp (maxSteps := 2000000) only [vup, cond_true, cond_false, Nat.reduceBEq, Int.natCast_one]) rfl ?_
  rintro ⟨s, out, hp⟩ ⟨hs1, hs, hcs, hEp, hbo⟩
  simp only at hs1 hs hcs hEp hbo
  refine Zy fun Q2 hQ2 => ?_
  simp only [l60_3]
  have t1p : hp[h.length]? = some (.cells [Zd (n : Nat), v] 86 false) := (hEp.2 _ (Yn t1) id).trans t1
  have hHl : h.length < H.length := Yn t1
  by_cases hin : (s : Int) < ((2 ^ n : Nat) : Int)
  · have hs' : s < 2 ^ n := by omega
    refine Ze fun N4 hN4 => ?_
    simp (maxSteps := 2000000) only [↓Za, ↓Zs, ↓Zw, ↓Zb, ↓Zc, ↓vdn, vup, cond_true, cond_false, aop, Zg, ev, sput, Zf, Yk, Yl, Nat.reduceBEq, tyf, tA0, Vn t1p, Int.natCast_nonneg, hsh, hin]
    refine hN4 [(1, .pointer (some ⟨h.length, 0, none⟩)), (2, .slice none 0 0), (3, out), (4, Zd (s : Nat))] _ _ ?_ (by simp (maxSteps := 2000000) only [vup, cond_true, cond_false, Nat.reduceBEq])
    clear hN4
    try clear N4
    refine Zl fun Y hY => ?_
    refine Zn ?_
    -- the worlds' box
    obtain ⟨H1, hH1⟩ : ∃ H1, H1 = hp ++ [Blk.cells [.slice none 0 0] 38 false] := ⟨_, rfl⟩
    have b5 : H1[hp.length]? = some (.cells [.slice none 0 0] 38 false) := by rw [hH1]; exact Yh _ _
    have hE1 : Ext (fun _ => False) hp H1 := by rw [hH1]; exact Ext.app _ _ _
    have hH1l : H1.length = hp.length + 1 := by rw [hH1]; simp
    refine Ze fun N5 hN5 => ?_
    simp (maxSteps := 2000000) only [↓Za, ↓Zb, ↓Zc, vup, cond_false, aop, Zg, sput, Zf, Nat.reduceBEq, tyf, Xn, Yx]
    rw [← hH1]
    refine hN5 [(1, .pointer (some ⟨h.length, 0, none⟩)), (2, .slice none 0 0), (3, out), (4, Zd (s : Nat)), (5, .pointer (some ⟨hp.length, 0, none⟩))] _ _ ?_ (by simp (maxSteps := 2000000) only [vup, cond_true, cond_false, Nat.reduceBEq])
    clear hN5
    try clear N5
    -- the worlds
    refine Zl fun X hX => ?_
    refine Ze fun N6 hN6 => ?_
    simp (maxSteps := 2000000) only [↓Za, ↓Zb, ↓Zc, vup, cond_true, cond_false, aop, Zg, ev, sput, Zf, Nat.reduceBEq, tA0, Vn ((hE1.2 _ (Yn t1p) id).trans t1p)]
    refine hN6 [(1, .pointer (some ⟨h.length, 0, none⟩)), (2, .slice none 0 0), (3, out), (4, Zd (s : Nat)), (5, .pointer (some ⟨hp.length, 0, none⟩)), (24, Zd (n : Nat)), (25, .int .i64 0)] _ _ ?_ (by simp (maxSteps := 2000000) only [vup, cond_true, cond_false, Nat.reduceBEq])
    clear hN6
    try clear N6
    refine Zn ?_
    refine Zy fun Qa hQa => ?_
    refine Xd (γ := Nat × Value × Zh) (fun g => g.1 ≤ n ∧ g.2.2[hp.length]? = some (.cells [g.2.1] 38 false) ∧ OwnSl 3 g.2.2 g.2.1 (Ww (Yd s g.1)) ∧ Ext (fun _ => False) hp g.2.2 ∧ (∀ b, Yf g.2.1 = some b → hp.length < b))
      (fun g => ([(1, .pointer (some ⟨h.length, 0, none⟩)), (2, .slice none 0 0), (3, out), (4, Zd (s : Nat)), (5, .pointer (some ⟨hp.length, 0, none⟩)), (24, Zd (n : Nat)), (25, Zd (g.1 : Nat))], g.2.2)) (fun g => n - g.1) (0, .slice none 0 0, H1) ⟨Nat.zero_le _, b5, .inl ⟨rfl, rfl⟩, hE1, fun b hb => by cases hb⟩ (by simp (maxSteps := 2000000) only [vup, cond_true, cond_false, Nat.reduceBEq, Int.natCast_zero]) rfl ?_
    rintro ⟨k, wv, G⟩ ⟨hk, g5, how, hEG, hbw⟩
    simp only at hk g5 how hEG hbw
    refine Zy fun Qb hQb => ?_
    simp only [l60_0]
    by_cases hkin : (k : Int) < n
    · have hk' : k < n := by omega
      have ht := testV (y := k) (show s < 9223372036854775808 by omega)
      have hnx := Wf s k
      refine Ze fun N7 hN7 => ?_
      simp (maxSteps := 2000000) only [↓Za, ↓Zb, ↓Zc, vup, cond_true, cond_false, aop, Zg, ev, sput, Zf, Yk, Yl, Nat.reduceBEq, hkin]
      refine hN7 [(1, .pointer (some ⟨h.length, 0, none⟩)), (2, .slice none 0 0), (3, out), (4, Zd (s : Nat)), (5, .pointer (some ⟨hp.length, 0, none⟩)), (24, Zd (n : Nat)), (25, Zd (k : Nat)), (26, .bool true)] _ _ ?_ (by simp (maxSteps := 2000000) only [vup, cond_true, cond_false, Nat.reduceBEq])
      clear hN7
      try clear N7
      refine Ze fun N8 hN8 => ?_
      simp (maxSteps := 2000000) only [↓Zs, ↓vdn, vup, cond_true, cond_false, Zg, ev, Nat.reduceBEq]
      refine hN8 [(1, .pointer (some ⟨h.length, 0, none⟩)), (2, .slice none 0 0), (3, out), (4, Zd (s : Nat)), (5, .pointer (some ⟨hp.length, 0, none⟩)), (24, Zd (n : Nat)), (25, Zd (k : Nat))] _ _ ?_ (by simp (maxSteps := 2000000) only [vup, cond_true, cond_false, Nat.reduceBEq])
      clear hN8
      try clear N8
      refine Zl fun B hB => ?_
      refine Zn ?_
      refine Ze fun N9 hN9 => ?_
      simp (maxSteps := 2000000) only [↓Za, ↓Zb, ↓Zc, vup, cond_true, cond_false, aop, Zg, ev, sput, Zf, Nat.reduceBEq]
      refine hN9 [(1, .pointer (some ⟨h.length, 0, none⟩)), (2, .slice none 0 0), (3, out), (4, Zd (s : Nat)), (5, .pointer (some ⟨hp.length, 0, none⟩)), (6, Zd (k : Nat)), (24, Zd (n : Nat)), (25, Zd (k : Nat))] _ _ ?_ (by simp (maxSteps := 2000000) only [vup, cond_true, cond_false, Nat.reduceBEq])
      clear hN9
      try clear N9
      refine Ze fun N10 hN10 => ?_
      simp (maxSteps := 2000000) only [↓Za, ↓Zb, ↓Zc, vup, cond_true, cond_false, aop, Zg, ev, sput, Zf, Yk, Yl, Nat.reduceBEq, ht, beq1, Int.natCast_nonneg]
      refine hN10 [(1, .pointer (some ⟨h.length, 0, none⟩)), (2, .slice none 0 0), (3, out), (4, Zd (s : Nat)), (5, .pointer (some ⟨hp.length, 0, none⟩)), (6, Zd (k : Nat)), (24, Zd (n : Nat)), (25, Zd (k : Nat)), (32, .bool (s.testBit k))] _ _ ?_ (by simp (maxSteps := 2000000) only [vup, cond_true, cond_false, Nat.reduceBEq])
      clear hN10
      try clear N10
      cases hbit : s.testBit k with
      | false =>
        rw [hbit, if_neg (by decide), List.append_nil] at hnx
        refine Yz rfl ?_
        refine Zi ?_
        simp (maxSteps := 2000000) only [↓Zs, Zg, Zo]
        refine hB [(1, .pointer (some ⟨h.length, 0, none⟩)), (2, .slice none 0 0), (3, out), (4, Zd (s : Nat)), (5, .pointer (some ⟨hp.length, 0, none⟩)), (24, Zd (n : Nat)), (25, Zd (k : Nat))] _ _ ?_ (by simp (maxSteps := 2000000) only [vup, cond_true, cond_false, Nat.reduceBEq])
        clear hB
        try clear B
        refine Zi ?_
        simp (maxSteps := 2000000) only [↓Za, ↓Zb, ↓Zc, vup, cond_true, cond_false, aop, ev, sput, Zf, Yk, Yl, Nat.reduceBEq, add1 (show k < 9223372036854775807 by omega)]
        exact hQb _ _ _ ⟨(k + 1, wv, G), ⟨hk', g5, by simp only; rw [hnx]; exact how, hEG, hbw⟩, by simp only; omega, by simp (maxSteps := 2000000) only [vup, cond_true, cond_false, Nat.reduceBEq], rfl⟩
      | true =>
        rw [hbit, if_pos rfl] at hnx
        refine Xr rfl ?_
        refine Zi ?_
        simp (maxSteps := 2000000) only [↓Za, ↓Zb, ↓Zc, vup, List.map_cons, List.map_nil, cond_true, cond_false, aop, Zg, Zo, ev, sput, Zf, Zk, Nat.reduceBEq, load1 g5 shp_38, litI1]
        have hwl := worldsTo_le s k
        refine OwnSl.append (x := (k : Int)) (how.ext (S := fun _ => False) (Ext.app _ _ _) (fun _ _ => id)) app_38_38 (by rw [castI_len]; omega) (Yh _ _) ?_
        intro wv' G' ho' hE' hb'
        rw [← castI_snoc, ← hnx] at ho'
        have g5' : G'[hp.length]? = some (.cells [wv] 38 false) := by
          rw [hE'.2 _ (by rw [List.length_append]; have := Yn g5; omega) (fun hc => by have := hbw _ hc; omega)]
          exact Xp g5 _
        have hone : one wv' = true := ho'.notI.2
        have hE2 : Ext (fun _ => False) hp G' := ext_app hEG (H' := G ++ [Blk.ints [(k : Int)] 3 false]) (by simp) (fun q hq => List.getElem?_append_left (by have := hEG.1; omega)) (fun b hb => by have := hbw b hb; omega) hE'
        have hbw' : ∀ b, Yf wv' = some b → hp.length < b := fun b hb => by
          rcases hb' with h1 | ⟨b', h1, h2⟩
          · exact hbw b (h1 ▸ hb)
          · rw [h1] at hb; cases hb
            rw [List.length_append] at h2
            have := Yn g5; omega
        simp (maxSteps := 2000000) only [store1 g5' shp_38 hone]
        refine hB [(1, .pointer (some ⟨h.length, 0, none⟩)), (2, .slice none 0 0), (3, out), (4, Zd (s : Nat)), (5, .pointer (some ⟨hp.length, 0, none⟩)), (24, Zd (n : Nat)), (25, Zd (k : Nat))] _ _ ?_ (by simp (maxSteps := 2000000) only [vup, cond_true, cond_false, Nat.reduceBEq])
        clear hB
        try clear B
        refine Zi ?_
        simp (maxSteps := 2000000) only [↓Za, ↓Zb, ↓Zc, vup, cond_true, cond_false, aop, ev, sput, Zf, Yk, Yl, Nat.reduceBEq, add1 (show k < 9223372036854775807 by omega)]
        refine hQb _ _ _ ⟨(k + 1, wv', G'.set hp.length (.cells [wv'] 38 false)), ⟨hk', Wa (Yn g5') _, ?_, hE2.set_ge (Nat.le_refl _) _, hbw'⟩, by simp only; omega, by simp (maxSteps := 2000000) only [vup, cond_true, cond_false, Nat.reduceBEq], rfl⟩
        exact ho'.ext (S := fun b => b = hp.length) (Ext.set _ rfl) (fun b hb hc => by have := hbw' b hb; omega)
    have hkn := loopEnd hkin hk
    subst hkn
    refine Ze fun N11 hN11 => ?_
    simp (maxSteps := 2000000) only [↓Za, ↓Zb, ↓Zc, vup, cond_true, cond_false, aop, Zg, ev, sput, Zf, Yk, Yl, Nat.reduceBEq, hkin]
    refine hN11 [(1, .pointer (some ⟨h.length, 0, none⟩)), (2, .slice none 0 0), (3, out), (4, Zd (s : Nat)), (5, .pointer (some ⟨hp.length, 0, none⟩)), (24, Zd (n : Nat)), (25, Zd (n : Nat)), (26, .bool false)] _ _ ?_ (by simp (maxSteps := 2000000) only [vup, cond_true, cond_false, Nat.reduceBEq])
    clear hN11
    try clear N11
    refine Ze fun N12 hN12 => ?_
    simp (maxSteps := 2000000) only [↓Xl, ↓vdn, vup, cond_true, cond_false, Zg, ev, Nat.reduceBEq]
    refine hQb _ _ _ (hQa _ _ _ ?_)
    simp (maxSteps := 2000000) only [Zg, Zo, if_true]
    refine hX [(1, .pointer (some ⟨h.length, 0, none⟩)), (2, .slice none 0 0), (3, out), (4, Zd (s : Nat)), (5, .pointer (some ⟨hp.length, 0, none⟩)), (26, .bool false)] _ _ ?_ (by simp (maxSteps := 2000000) only [vup, cond_true, cond_false, Nat.reduceBEq])
    clear hX
    try clear X
    obtain ⟨W, hW⟩ : ∃ W, W = Yd s n := ⟨_, rfl⟩
    have hWN : Yi n s = W := hW.symm
    have hWl : W.length ≤ n := by rw [hW]; exact worldsTo_le s n
    have hW1 : 1 ≤ W.length := by rw [← hWN]; exact worldsN_pos hs1 hs'
    have hWlt : ∀ w ∈ W, w < n := fun w hw => (worldsTo_lt (by rw [← hW]; exact hw)).1
    have htm := htame s hs1 hs'
    rw [hWN] at htm
    rw [← hW] at how
    obtain ⟨T, hT⟩ : ∃ T, T = sysB n l W := ⟨_, rfl⟩
    have hcorner : Vb n l s = (Wz (l.length + 1) W.length T).bind fun x => if x.any (fun q => decide (q < 0)) then none else some (Xt n W x W.length) := by rw [Vb, hWN, hT]
    rw [← hT] at htm
    clear hW hQa hQb
    refine Ze fun N13 hN13 => ?_
    simp (maxSteps := 2000000) only [↓Za, ↓Zb, ↓Zc, vup, List.map_cons, List.map_nil, cond_true, cond_false, aop, Zg, ev, sput, Zf, Nat.reduceBEq, List.map_toArray]
    refine hN13 [(1, .pointer (some ⟨h.length, 0, none⟩)), (2, .slice none 0 0), (3, out), (4, Zd (s : Nat)), (5, .pointer (some ⟨hp.length, 0, none⟩)), (7, .func (.func 100) #[] #[.pointer (some ⟨hp.length, 0, none⟩)]), (26, .bool false)] _ _ ?_ (by simp (maxSteps := 2000000) only [vup, cond_true, cond_false, Nat.reduceBEq])
    clear hN13
    try clear N13
    -- the first row
    have hpG : hp.length < G.length := Yn g5
    have t1G : G[h.length]? = some (.cells [Zd (n : Nat), v] 86 false) := (hEG.2 _ (Yn t1p) id).trans t1p
    refine Ze fun N14 hN14 => ?_
    simp only [q60_13]
    refine Wl [(5, 1), (6, 4)] (by kernel_rfl) (by kernel_rfl) (by kernel_rfl) (by kernel_rfl) ?_
    simp (maxSteps := 2000000) only [↓Xj, ↓vdn, vup, List.map_cons, List.map_nil, cond_true, cond_false, aop, Zg, ev, sput, Zf, Yk, Yl, Nat.reduceBEq, Nat.reduceAdd, tyf, tA0, Vn t1G, Int.natCast_nonneg, hsh, hsub, Yr, List.nil_append, List.append_nil, List.cons_append]
    refine ⟨_, _, (show Xm prog 70 [Zd 1] G (qV ((1 : Int) : Rat)) from whole_call), rfl, ?_⟩
    refine (row_call (q := ((1 : Int) : Rat)) g5 how.int (by omega) (show 2 ^ n - 1 < 9223372036854775808 by omega)).mono ?_
    rintro r0 G1 ⟨x1, x2, x3⟩
    have x2' : OwnP 26 G1 r0 (rowC T W.length 0) := by rw [hT, rowC_sum]; exact x2
    obtain ⟨bb, yy, hr0, -⟩ := Wb x2' rowC_ne
    have lit0 : ∀ K : Value → Zh → Prop, Yj prog G1 103 1 [(0, r0)] K = K (.slice (some ⟨G1.length, 0, none⟩) 1 1) (G1 ++ [.cells [r0] 47 false]) := fun K => by rw [hr0]; exact litV el_103 zero_47 esz_47
    simp (maxSteps := 2000000) only [lit0]
    refine hN14 [(1, .pointer (some ⟨h.length, 0, none⟩)), (2, .slice none 0 0), (3, out), (4, Zd (s : Nat)), (5, .pointer (some ⟨hp.length, 0, none⟩)), (7, .func (.func 100) #[] #[.pointer (some ⟨hp.length, 0, none⟩)]), (8, .slice (some ⟨G1.length, 0, none⟩) 1 1), (26, .bool false)] _ _ ?_ (by simp (maxSteps := 2000000) only [vup, cond_true, cond_false, Nat.reduceBEq])
    clear hN14
    try clear N14
    have hbr0 : Yf r0 = some bb := by rw [hr0]; rfl
    have hbb := x3 bb hbr0
    have R0 : Rows hp.length (G1 ++ [.cells [r0] 47 false]) (.slice (some ⟨G1.length, 0, none⟩) 1 1) [r0] W.length T := by
      obtain ⟨b2, y2, e1, e2⟩ := Wb x2' rowC_ne
      have hbl : bb < G1.length := by rw [e1] at hbr0; cases hbr0; exact Yn e2
      refine ⟨.inl ⟨_, rfl, Yh _ _⟩, by simp, fun i hi => ?_, fun i j hi hj _ => ?_, fun i hi hc => ?_, ⟨fun b hb => ?_, fun i b hi hb => ?_⟩⟩
      · obtain rfl : i = 0 := by simpa using hi
        exact x2'.ext (Ext.app _ _ _)
      · simp at hi hj; omega
      · obtain rfl : i = 0 := by simpa using hi
        simp only [List.getD, List.getElem?_cons_zero, Option.getD_some, hbr0] at hc
        cases hc; omega
      · cases hb; have := x1.1; omega
      · obtain rfl : i = 0 := by simpa using hi
        simp only [List.getD, List.getElem?_cons_zero, Option.getD_some, hbr0] at hb
        cases hb; omega
    have how0 : OwnSl 3 (G1 ++ [.cells [r0] 47 false]) wv (Ww W) := how.ext (S := fun _ => False) (x1.trans (Ext.app _ _ _)) (fun _ _ => id)
    have g50 : (G1 ++ [Blk.cells [r0] 47 false])[hp.length]? = some (.cells [wv] 38 false) := Xp ((x1.2 _ hpG id).trans g5) _
    have hE0 : Ext (fun _ => False) hp (G1 ++ [.cells [r0] 47 false]) := hEG.trans (x1.trans (Ext.app _ _ _))
    clear x1 x2 x2' x3 lit0 g5 how hEG t1G b5 hE1 hH1 hH1l H1
    have tI : ∀ G : Zh, Ext (fun _ => False) hp G → G[h.length]? = some (.cells [Zd (n : Nat), v] 86 false) ∧ PairSl G v l := fun G hx => ⟨(hx.2 _ (Yn t1p) id).trans t1p, hv.ext (hE.trans (hEp.trans hx))⟩
    -- a row for each bet
    refine Zl fun X hX => ?_
    refine Ze fun N15 hN15 => ?_
    simp (maxSteps := 2000000) only [↓Za, ↓Zb, ↓Zc, vup, List.map_cons, List.map_nil, cond_true, cond_false, aop, Zg, ev, sput, Zf, Zk, Nat.reduceBEq, tyf, tA1, loadT1 (tI _ hE0).1, hv.len]
    refine hN15 [(1, .pointer (some ⟨h.length, 0, none⟩)), (2, .slice none 0 0), (3, out), (4, Zd (s : Nat)), (5, .pointer (some ⟨hp.length, 0, none⟩)), (7, .func (.func 100) #[] #[.pointer (some ⟨hp.length, 0, none⟩)]), (8, .slice (some ⟨G1.length, 0, none⟩) 1 1), (26, .bool false), (48, v), (49, Zd l.length), (50, .int .i64 0)] _ _ ?_ (by simp (maxSteps := 2000000) only [vup, cond_true, cond_false, Nat.reduceBEq])
    clear hN15
    try clear N15
    refine Zn ?_
    refine Zy fun Qa hQa => ?_
    refine Xd (γ := Nat × Value × List Value × Zh) (fun g => g.1 ≤ l.length ∧ g.2.2.1.length = g.1 + 1 ∧ Rows hp.length g.2.2.2 g.2.1 g.2.2.1 W.length T ∧ (1 ≤ g.1 → OwnV 47 g.2.2.2 g.2.1 g.2.2.1) ∧ Ext (fun _ => False) hp g.2.2.2 ∧ g.2.2.2[hp.length]? = some (.cells [wv] 38 false) ∧ OwnSl 3 g.2.2.2 wv (Ww W))
      (fun g => ([(1, .pointer (some ⟨h.length, 0, none⟩)), (2, .slice none 0 0), (3, out), (4, Zd (s : Nat)), (5, .pointer (some ⟨hp.length, 0, none⟩)), (7, .func (.func 100) #[] #[.pointer (some ⟨hp.length, 0, none⟩)]), (8, g.2.1), (26, .bool false), (48, v), (49, Zd l.length), (50, Zd (g.1 : Nat))], g.2.2.2)) (fun g => l.length - g.1) (0, .slice (some ⟨G1.length, 0, none⟩) 1 1, [r0], G1 ++ [.cells [r0] 47 false]) ⟨Nat.zero_le _, rfl, R0, fun h0 => absurd h0 (by simp), hE0, g50, how0⟩ (by simp (maxSteps := 2000000) only [vup, cond_true, cond_false, Nat.reduceBEq, Int.natCast_zero]) rfl ?_
    rintro ⟨i, q, ws, G⟩ ⟨hi, hwsl, R, hOwn, hEG, g5, how⟩
    simp only at hi hwsl R hOwn hEG g5 how
    refine Zy fun Qb hQb => ?_
    simp only [l60_1]
    have sepq : Yf q ≠ some hp.length ∧ ∀ b, Yf wv = some b → Yf q ≠ some b := by
      obtain ⟨bq, cq, e1, e2, e3⟩ := R.sl.blk R.ne
      refine ⟨fun hc => ?_, fun b hb hc => ?_⟩
      · rw [e1] at hc; cases hc
        rw [g5] at e2; cases e2
      · rw [e1] at hc; cases hc
        obtain ⟨ys, e4⟩ := how.ints hb
        rw [e4] at e2; cases e2
    by_cases hiin : (i : Int) < l.length
    · have hi' : i < l.length := by omega
      obtain ⟨tG, hvG⟩ := tI G hEG
      obtain ⟨⟨x, y⟩, hxy⟩ : ∃ p, l.getD i (0, 0) = p := ⟨_, rfl⟩
      have hb := hok i hi'
      rw [hxy] at hb
      simp only [okB, Bool.and_eq_true, decide_eq_true_eq] at hb
      obtain ⟨e, he⟩ : ∃ e : Nat, x = e := ⟨x.toNat, by omega⟩
      subst he
      have hee : e < 2 ^ n := by
        have := hb.2.1
        exact_mod_cast this
      refine Ze fun N16 hN16 => ?_
      simp (maxSteps := 2000000) only [↓Za, ↓Zb, ↓Zc, vup, cond_true, cond_false, aop, Zg, ev, sput, Zf, Yk, Yl, Nat.reduceBEq, hiin]
      refine hN16 [(1, .pointer (some ⟨h.length, 0, none⟩)), (2, .slice none 0 0), (3, out), (4, Zd (s : Nat)), (5, .pointer (some ⟨hp.length, 0, none⟩)), (7, .func (.func 100) #[] #[.pointer (some ⟨hp.length, 0, none⟩)]), (8, q), (26, .bool false), (48, v), (49, Zd l.length), (50, Zd (i : Nat)), (51, .bool true)] _ _ ?_ (by simp (maxSteps := 2000000) only [vup, cond_true, cond_false, Nat.reduceBEq])
      clear hN16
      try clear N16
      refine Ze fun N17 hN17 => ?_
      simp (maxSteps := 2000000) only [↓Zs, ↓vdn, vup, cond_true, cond_false, Zg, ev, Nat.reduceBEq]
      refine hN17 [(1, .pointer (some ⟨h.length, 0, none⟩)), (2, .slice none 0 0), (3, out), (4, Zd (s : Nat)), (5, .pointer (some ⟨hp.length, 0, none⟩)), (7, .func (.func 100) #[] #[.pointer (some ⟨hp.length, 0, none⟩)]), (8, q), (26, .bool false), (48, v), (49, Zd l.length), (50, Zd (i : Nat))] _ _ ?_ (by simp (maxSteps := 2000000) only [vup, cond_true, cond_false, Nat.reduceBEq])
      clear hN17
      try clear N17
      refine Zl fun B hB => ?_
      refine Zn ?_
      obtain ⟨G2, hG2⟩ : ∃ G2, G2 = G ++ [bB e y] := ⟨_, rfl⟩
      have c10 : G2[G.length]? = some (bB e y) := by rw [hG2]; exact Yh _ _
      have hE2 : Ext (fun _ => False) G G2 := by rw [hG2]; exact Ext.app _ _ _
      have hG2l : G2.length = G.length + 1 := by rw [hG2]; simp
      refine Ze fun N18 hN18 => ?_
      simp (maxSteps := 2000000) only [↓Za, ↓Zb, ↓Zc, vup, cond_true, cond_false, aop, Zg, ev, sput, Zf, Nat.reduceBEq, tyf, hvG.idx el_30 esz_92 hi', hvG.load shp_92 hi', hxy, Xn, Yx, storeBt (Yh G zB) rfl, Xy]
      rw [← hG2]
      refine hN18 [(1, .pointer (some ⟨h.length, 0, none⟩)), (2, .slice none 0 0), (3, out), (4, Zd (s : Nat)), (5, .pointer (some ⟨hp.length, 0, none⟩)), (7, .func (.func 100) #[] #[.pointer (some ⟨hp.length, 0, none⟩)]), (8, q), (10, .pointer (some ⟨G.length, 0, none⟩)), (26, .bool false), (48, v), (49, Zd l.length), (50, Zd (i : Nat))] _ _ ?_ (by simp (maxSteps := 2000000) only [vup, cond_true, cond_false, Nat.reduceBEq])
      clear hN18
      try clear N18
      refine Zi ?_
      simp only [q60_17]
      refine Wl [(6, 1), (7, 4)] (by kernel_rfl) (by kernel_rfl) (by kernel_rfl) (by kernel_rfl) ?_
      simp (maxSteps := 2000000) only [↓Xj, ↓vdn, vup, List.map_cons, List.map_nil, cond_true, cond_false, aop, Zg, Zo, ev, sput, Zf, Zk, Nat.reduceBEq, Nat.reduceAdd, bA0, bA1, loadB0 c10, loadB1 c10, Yr, List.nil_append, List.append_nil, List.cons_append]
      refine ⟨_, _, (show Xm prog 64 [Zd y, Zd 12] G2 (qV (Rat.divInt y 12)) from frac_call (by decide) (by omega) (by decide)), rfl, ?_⟩
      refine (row_call (q := Rat.divInt y 12) ((hE2.2 _ (Yn g5) id).trans g5) (how.ext (S := fun _ => False) hE2 (fun _ _ => id)).int (by omega) (show e < 9223372036854775808 by omega)).mono ?_
      rintro rv G3 ⟨x1, x2, x3⟩
      have x2' : OwnP 26 G3 rv (rowC T W.length ws.length) := by
        rw [hwsl, hT, rowC_bet, hxy]; exact x2
      obtain ⟨bb, yy, hrv, -⟩ := Wb x2' rowC_ne
      have lit0 : ∀ K : Value → Zh → Prop, Yj prog G3 103 1 [(0, rv)] K = K (.slice (some ⟨G3.length, 0, none⟩) 1 1) (G3 ++ [.cells [rv] 47 false]) := fun K => by rw [hrv]; exact litV el_103 zero_47 esz_47
      simp (maxSteps := 2000000) only [lit0]
      have hE34 : Ext (fun _ => False) G (G3 ++ [.cells [rv] 47 false]) := hE2.trans (x1.trans (Ext.app _ _ _))
      refine R.more (by omega) (by have := hEG.1; omega) hE34 (x2'.ext (Ext.app _ _ _)) (fun b hb => by have := x3 b hb; omega) (Yh _ _) fun q' h' ho' R' hEa hEb => ?_
      have keep : ∀ b, b < G.length → Yf q ≠ some b → h'[b]? = G[b]? := fun b hb hne => by
        rw [hEb.2 b (by have := hE34.1; omega) hne]; exact hE34.2 b hb id
      have hEh : Ext (fun _ => False) hp h' := by
        refine ⟨by have := hEG.1; have := hE34.1; have := hEa.1; omega, fun z hz _ => ?_⟩
        rw [hEa.2 z (by have := hEG.1; have := hE34.1; omega) (by omega), hE34.2 z (by have := hEG.1; omega) id]
        exact hEG.2 z hz id
      have g5' : h'[hp.length]? = some (.cells [wv] 38 false) := by rw [keep _ (Yn g5) sepq.1]; exact g5
      have how' : OwnSl 3 h' wv (Ww W) := how.same fun b hb => keep b (how.lt hb) (sepq.2 b hb)
      refine hB [(1, .pointer (some ⟨h.length, 0, none⟩)), (2, .slice none 0 0), (3, out), (4, Zd (s : Nat)), (5, .pointer (some ⟨hp.length, 0, none⟩)), (7, .func (.func 100) #[] #[.pointer (some ⟨hp.length, 0, none⟩)]), (8, q'), (26, .bool false), (48, v), (49, Zd l.length), (50, Zd (i : Nat))] _ _ ?_ (by simp (maxSteps := 2000000) only [vup, cond_true, cond_false, Nat.reduceBEq])
      clear hB
      try clear B
      refine Zi ?_
      simp (maxSteps := 2000000) only [↓Za, ↓Zb, ↓Zc, vup, cond_true, cond_false, aop, ev, sput, Zf, Yk, Yl, Nat.reduceBEq, add1 (show i < 9223372036854775807 by omega)]
      exact hQb _ _ _ ⟨(i + 1, q', ws ++ [rv], h'), ⟨hi', by simp [hwsl], R', fun _ => ho', hEh, g5', how'⟩, by simp only; omega, by simp (maxSteps := 2000000) only [vup, cond_true, cond_false, Nat.reduceBEq], rfl⟩
    have hil := loopEnd hiin hi
    subst hil
    refine Ze fun N19 hN19 => ?_
    simp (maxSteps := 2000000) only [↓Za, ↓Zb, ↓Zc, vup, cond_true, cond_false, aop, Zg, ev, sput, Zf, Yk, Yl, Nat.reduceBEq, hiin]
    refine hN19 [(1, .pointer (some ⟨h.length, 0, none⟩)), (2, .slice none 0 0), (3, out), (4, Zd (s : Nat)), (5, .pointer (some ⟨hp.length, 0, none⟩)), (7, .func (.func 100) #[] #[.pointer (some ⟨hp.length, 0, none⟩)]), (8, q), (26, .bool false), (48, v), (49, Zd l.length), (50, Zd (l.length : Nat)), (51, .bool false)] _ _ ?_ (by simp (maxSteps := 2000000) only [vup, cond_true, cond_false, Nat.reduceBEq])
    clear hN19
    try clear N19
    refine Ze fun N20 hN20 => ?_
    simp (maxSteps := 2000000) only [↓Xl, ↓vdn, vup, cond_true, cond_false, Zg, ev, Nat.reduceBEq]
    refine hQb _ _ _ (hQa _ _ _ ?_)
    simp (maxSteps := 2000000) only [Zg, Zo, if_true]
    refine hX [(1, .pointer (some ⟨h.length, 0, none⟩)), (2, .slice none 0 0), (3, out), (4, Zd (s : Nat)), (5, .pointer (some ⟨hp.length, 0, none⟩)), (7, .func (.func 100) #[] #[.pointer (some ⟨hp.length, 0, none⟩)]), (8, q), (26, .bool false), (51, .bool false)] _ _ ?_ (by simp (maxSteps := 2000000) only [vup, cond_true, cond_false, Nat.reduceBEq])
    clear hX
    try clear X
    have ho := hOwn hl1
    obtain ⟨B, C, hqe, hBC, hBp, M, hbkp⟩ := R.mat ho
    rw [hwsl] at hqe hBC M hbkp
    -- it is solved
    have hli : (Ww W).length = W.length := castI_len W
    have hsolve := solve_call M hBC (by omega) (by omega) hW1 (by omega) htm
    refine Ze fun N21 hN21 => ?_
    simp (maxSteps := 2000000) only [↓Za, ↓Zb, ↓Zc, vup, List.map_cons, List.map_nil, cond_true, cond_false, aop, Zg, ev, sput, Zf, Zk, Nat.reduceBEq, tyf, load1 g5 shp_38, how.int.len, hli, hqe, Yr, List.nil_append, List.append_nil]
    refine hsolve.mono ?_
    rintro r G' ⟨hEs, x, ok, rfl, hres⟩
    simp (maxSteps := 2000000) only [extr_20, extr_21]
    refine hN21 [(1, .pointer (some ⟨h.length, 0, none⟩)), (2, .slice none 0 0), (3, out), (4, Zd (s : Nat)), (5, .pointer (some ⟨hp.length, 0, none⟩)), (7, .func (.func 100) #[] #[.pointer (some ⟨hp.length, 0, none⟩)]), (11, x), (12, .bool ok), (26, .bool false), (51, .bool false)] _ _ ?_ (by simp (maxSteps := 2000000) only [vup, cond_true, cond_false, Nat.reduceBEq])
    clear hN21
    try clear N21
    have hBk : ∀ b, Tch B (l.length + 1) (fun i => bkOf (ws.getD i undef)) b → hp.length ≤ b ∧ b ≠ hp.length ∧ ∀ b', Yf wv = some b' → b ≠ b' := fun b hb => by
      rcases hb with rfl | ⟨j, hj, rfl⟩
      · obtain ⟨us, e2⟩ := M.outer
        refine ⟨hBp, fun hc => ?_, fun b' hb' hc => ?_⟩
        · rw [← hc, e2] at g5
          exact absurd (Blk.cells.inj (Option.some.inj g5)).2.1 (by decide)
        · obtain ⟨ys, e4⟩ := how.ints hb'
          rw [← hc, e2] at e4; cases e4
      · obtain ⟨cc, xs, e1, e3, e2⟩ := M.row j hj
        refine ⟨hbkp j hj, fun hc => ?_, fun b' hb' hc => ?_⟩
        · have e2' : G[bkOf (ws.getD j undef)]? = _ := e2
          have hc' : bkOf (ws.getD j undef) = hp.length := hc
          rw [hc', g5] at e2'; cases e2'
        · obtain ⟨ys, e4⟩ := how.ints hb'
          have e2' : G[bkOf (ws.getD j undef)]? = _ := e2
          have hc' : bkOf (ws.getD j undef) = b' := hc
          rw [hc', e4] at e2'; cases e2'
    have hEG' : Ext (fun _ => False) hp G' := by
      refine ⟨by have := hEG.1; have := hEs.1; omega, fun z hz _ => ?_⟩
      rw [hEs.2 z (by have := hEG.1; omega) (fun hc => by have := (hBk z hc).1; omega)]
      exact hEG.2 z hz id
    have g5' : G'[hp.length]? = some (.cells [wv] 38 false) := by
      rw [hEs.2 _ (Yn g5) (fun hc => (hBk _ hc).2.1 rfl)]; exact g5
    have how' : OwnSl 3 G' wv (Ww W) := how.same fun b hb => hEs.2 b (how.lt hb) (fun hc => (hBk _ hc).2.2 b hb rfl)
    have hlen' : G.length ≤ G'.length := hEs.1
    clear hQa hQb M R hOwn sepq ho hsolve hBk hEs hqe g50 how0 hE0 R0 hlen'
    -- the next set
    have goOn : ∀ e out' G2, CornSl G2 out' (Wh n l s) → Ext (fun _ => False) H G2 → (∀ b, Yf out' = some b → H.length ≤ b) → ELe e [(1, .pointer (some ⟨h.length, 0, none⟩)), (2, .slice none 0 0), (3, out'), (4, Zd (s : Nat)), (26, .bool false), (51, .bool false)] → Y e G2 := by
      intro e out' G2 c1 c2 c3 he
      refine hY _ _ _ ?_ he
      refine Zi ?_
      have ea : addV .i64 (s : Int) 1 = ((s + 1 : Nat) : Int) := add1 (by omega)
      simp (maxSteps := 2000000) only [↓Za, ↓Zb, ↓Zc, vup, cond_true, cond_false, aop, ev, sput, Zf, Yk, Yl, Nat.reduceBEq, ea]
      exact hQ2 _ _ _ ⟨(s + 1, out', G2), ⟨by simp only; omega, by simp only; omega, by simpa using c1, c2, c3⟩, by simp only; omega, by simp (maxSteps := 2000000) only [vup, cond_true, cond_false, Nat.reduceBEq], rfl⟩
    have hcsucc : Wh n l s = Wh n l (s - 1) ++ (Vb n l s).toList := by
      obtain ⟨s', rfl⟩ : ∃ s', s = s' + 1 := ⟨s - 1, by omega⟩
      rw [Wh]; simp
    have skip : Vb n l s = none → ∀ e, ELe e [(1, .pointer (some ⟨h.length, 0, none⟩)), (2, .slice none 0 0), (3, out), (4, Zd (s : Nat)), (26, .bool false), (51, .bool false)] → Y e G' := fun h0 e he => goOn e out G' (by rw [hcsucc, h0]; simpa using hcs.ext hEG') (hEp.trans hEG') hbo he
    cases hsol : Wz (l.length + 1) W.length T with
    | none =>
      rw [hsol] at hres hcorner
      simp only at hres
      obtain ⟨rfl, rfl⟩ := hres
      refine Zi ?_
      simp (maxSteps := 2000000) only [↓Za, ↓Zw, ↓Xl, ↓Zb, ↓Zc, ↓vdn, vup, cond_true, cond_false, aop, Zg, Zo, ev, sput, Zf, unK, Nat.reduceBEq]
      exact skip hcorner _ (by simp (maxSteps := 2000000) only [vup, cond_true, cond_false, Nat.reduceBEq])
    | some xs =>
      rw [hsol, Option.bind_some] at hcorner
      rw [hsol] at hres
      simp only at hres
      obtain ⟨rfl, hox, hbx⟩ := hres
      have hxl : xs.length = W.length := solveT_len hsol
      have hany : ((xs.map ofQ).any fun p => decide (p.1 < 0)) = xs.any fun q => decide (q < 0) := by
        rw [List.any_map]
        congr 1
        funext q
        refine decide_eq_decide.2 ?_
        show q.num < 0 ↔ q < 0
        rw [← Rat.not_le, ← Rat.num_nonneg]; omega
      have hneg := hasF_call (g := 102) (cap := #[]) (f := fun p => decide (p.1 < 0)) hox.pair (by simp; omega) (fun h' hx p hp => neg_call)
      rw [hany] at hneg
      refine Zl fun X hX => ?_
      refine Ze fun N22 hN22 => ?_
      simp (maxSteps := 2000000) only [↓Za, ↓Zb, ↓Zc, ↓vdn, vup, List.map_cons, List.map_nil, cond_true, cond_false, aop, Zg, ev, sput, Zf, unK, Nat.reduceBEq, Yr, List.nil_append, List.append_nil]
      refine hneg.mono ?_
      rintro _ G' ⟨rfl, rfl⟩
      refine hN22 [(1, .pointer (some ⟨h.length, 0, none⟩)), (2, .slice none 0 0), (3, out), (4, Zd (s : Nat)), (5, .pointer (some ⟨hp.length, 0, none⟩)), (7, .func (.func 100) #[] #[.pointer (some ⟨hp.length, 0, none⟩)]), (11, x), (12, .bool true), (26, .bool false), (51, .bool false), (77, .bool (xs.any fun q => decide (q < 0)))] _ _ ?_ (by simp (maxSteps := 2000000) only [vup, cond_true, cond_false, Nat.reduceBEq])
      clear hN22
      try clear N22
      cases hn : xs.any fun q => decide (q < 0) with
      | true =>
        rw [hn, if_pos rfl] at hcorner
        refine Xr rfl ?_
        refine Zi ?_
        simp (maxSteps := 2000000) only [↓Xl, Zg, Zo]
        exact skip hcorner _ (by simp (maxSteps := 2000000) only [vup, cond_true, cond_false, Nat.reduceBEq])
      | false =>
        rw [hn, if_neg (by decide)] at hcorner
        refine Yz rfl ?_
        refine Zi ?_
        simp (maxSteps := 2000000) only [↓Zs, Zg]
        refine hX [(1, .pointer (some ⟨h.length, 0, none⟩)), (2, .slice none 0 0), (3, out), (4, Zd (s : Nat)), (5, .pointer (some ⟨hp.length, 0, none⟩)), (7, .func (.func 100) #[] #[.pointer (some ⟨hp.length, 0, none⟩)]), (11, x), (26, .bool false), (51, .bool false)] _ _ ?_ (by simp (maxSteps := 2000000) only [vup, cond_true, cond_false, Nat.reduceBEq])
        clear hX
        try clear X
        obtain ⟨tG, -⟩ := tI G' hEG'
        -- the belief
        obtain ⟨F, hF⟩ : ∃ F : Nat → Zh, F = fun k => G' ++ [.ints [0, 1] 26 false] ++ [.cells ((Zx ((Xt n W xs k).map ofQ)).map Zd) 26 false] := ⟨_, rfl⟩
        have hF0 : ∀ k, (F k)[G'.length + 1]? = some (.cells ((Zx ((Xt n W xs k).map ofQ)).map Zd) 26 false) := fun k => by rw [hF]; exact b2_1 ..
        have hFE : ∀ k, Ext (fun _ => False) G' (F k) := fun k => by rw [hF]; exact e2 ..
        have hFs : ∀ k, (F k).set (G'.length + 1) (.cells ((Zx ((Xt n W xs (k + 1)).map ofQ)).map Zd) 26 false) = F (k + 1) := fun k => by
          simp only [hF]
          rw [show G'.length + 1 = (G' ++ [Blk.ints [0, 1] 26 false]).length by simp, Xy]
        have hFl : ∀ k, (F k).length = G'.length + 2 := fun k => by rw [hF]; simp
        have hF1 : G' ++ [.ints [0, 1] 26 false] ++ [.cells ((Zx (List.replicate n ((0 : Int), (1 : Int)))).map Zd) 26 false] = F 0 := by
          rw [hF]; simp only [Xt, List.map_replicate]; rfl
        have rep := repeat_call (h := G' ++ [.ints [0, 1] 26 false]) (b0 := G'.length) (x := 0) (y := 1) (Yh _ _) (show 1 ≤ n by omega) (show n < 6 by omega)
        rw [hF1, List.length_append, List.length_singleton] at rep
        have q0 : qV ((0 : Int) : Rat) = .agg #[Zd 0, Zd 1] := rfl
        refine Ze fun N23 hN23 => ?_
        simp only [q60_21]
        refine aw_drawR (fun z => z[h.length]? = some (Blk.cells [Zd (n : Nat), v] 86 false)) [(0, 1), (3, 5)] (by kernel_rfl) (by kernel_rfl) (by kernel_rfl) (by kernel_rfl) tG ?_
        simp (maxSteps := 2000000) only [↓dopsR_nil, ↓vdn, vup, List.map_cons, List.map_nil, cond_true, cond_false, aop, Zg, ev, sput, Zf, Nat.reduceBEq, Nat.reduceAdd, Yr, List.nil_append, List.append_nil]
        refine ⟨_, _, (show Xm prog 70 [Zd 0] G' (qV ((0 : Int) : Rat)) from whole_call), rfl, ?_⟩
        simp (maxSteps := 2000000) only [q0, litF, tA0]
        refine ⟨Xp tG _, Zd (n : Nat), fun z hz => by simp only [Vn hz], _, _, rep, (hFE 0).2 _ (Yn tG) id |>.trans tG, ?_⟩
        refine hN23 [(1, .pointer (some ⟨h.length, 0, none⟩)), (2, .slice none 0 0), (3, out), (4, Zd (s : Nat)), (5, .pointer (some ⟨hp.length, 0, none⟩)), (7, .func (.func 100) #[] #[.pointer (some ⟨hp.length, 0, none⟩)]), (11, x), (13, .slice (some ⟨G'.length + 1, 0, none⟩) n n), (26, .bool false), (51, .bool false)] _ _ ?_ (by simp (maxSteps := 2000000) only [vup, cond_true, cond_false, Nat.reduceBEq])
        clear hN23
        try clear N23
        have g5F : ∀ k, (F k)[hp.length]? = some (.cells [wv] 38 false) := fun k => ((hFE k).2 _ (Yn g5') id).trans g5'
        have howF : ∀ k, OwnSl 3 (F k) wv (Ww W) := fun k => how'.ext (S := fun _ => False) (hFE k) (fun _ _ => id)
        refine Zl fun U hU => ?_
        refine Ze fun N24 hN24 => ?_
        simp (maxSteps := 2000000) only [↓Za, ↓Zb, ↓Zc, vup, List.map_cons, List.map_nil, cond_true, cond_false, aop, Zg, ev, sput, Zf, Zk, Nat.reduceBEq, tyf, load1 (g5F 0) shp_38, (howF 0).int.len, hli]
        refine hN24 [(1, .pointer (some ⟨h.length, 0, none⟩)), (2, .slice none 0 0), (3, out), (4, Zd (s : Nat)), (5, .pointer (some ⟨hp.length, 0, none⟩)), (7, .func (.func 100) #[] #[.pointer (some ⟨hp.length, 0, none⟩)]), (11, x), (13, .slice (some ⟨G'.length + 1, 0, none⟩) n n), (26, .bool false), (51, .bool false), (83, wv), (84, Zd (W.length : Nat)), (85, .int .i64 0)] _ _ ?_ (by simp (maxSteps := 2000000) only [vup, cond_true, cond_false, Nat.reduceBEq])
        clear hN24
        try clear N24
        refine Zn ?_
        refine Zy fun Qa hQa => ?_
        refine Xd (γ := Nat) (fun k => k ≤ W.length) (fun k => ([(1, .pointer (some ⟨h.length, 0, none⟩)), (2, .slice none 0 0), (3, out), (4, Zd (s : Nat)), (5, .pointer (some ⟨hp.length, 0, none⟩)), (7, .func (.func 100) #[] #[.pointer (some ⟨hp.length, 0, none⟩)]), (11, x), (13, .slice (some ⟨G'.length + 1, 0, none⟩) n n), (26, .bool false), (51, .bool false), (83, wv), (84, Zd (W.length : Nat)), (85, Zd (k : Nat))], F k)) (fun k => W.length - k) 0 (Nat.zero_le _) (by simp (maxSteps := 2000000) only [vup, cond_true, cond_false, Nat.reduceBEq, Int.natCast_zero]) rfl ?_
        rintro k hk
        refine Zy fun Qb hQb => ?_
        simp only [l60_2]
        by_cases hkin : (k : Int) < W.length
        · have hk' : k < W.length := by omega
          have hkc : k < (Ww W).length := by omega
          have hw : W.getD k 0 < n := hWlt _ (by rw [List.getD, List.getElem?_eq_getElem hk']; exact List.getElem_mem hk')
          have hxF := (hox.ext (hFE k)).pair
          have hkx : k < (xs.map ofQ).length := by rw [List.length_map]; omega
          have hgx : (xs.map ofQ).getD k (0, 0) = ofQ (xs.getD k 0) := by
            rw [List.getD, List.getElem?_map, List.getElem?_eq_getElem (show k < xs.length by omega), List.getD, List.getElem?_eq_getElem (show k < xs.length by omega)]; rfl
          have hslen : ((Xt n W xs k).map ofQ).length = n := by rw [List.length_map, Vi]
          have pF := pairSl_cells (hF0 k)
          rw [hslen] at pF
          have hidx : ∀ K : Value → Prop, Xc prog 90 (.slice (some ⟨G'.length + 1, 0, none⟩) n n) (Zd (W.getD k 0 : Nat)) K = K (.pointer (some ⟨G'.length + 1, W.getD k 0 * 2, none⟩)) := fun K => by
            rw [pF.idx el_90 esz_26 (by rw [hslen]; exact hw), elemP_pair]
          have hst : ∀ K : Zh → Prop, Xh prog (F k) 26 (.pointer (some ⟨G'.length + 1, W.getD k 0 * 2, none⟩)) (.agg #[Zd (xs.getD k 0).num, Zd ((xs.getD k 0).den : Int)]) K = K (F (k + 1)) := fun K => by
            rw [storePC (hF0 k) shp_26 (by rw [hslen]; exact hw), ← hFs k, Xt, List.map_set]; rfl
          refine Ze fun N25 hN25 => ?_
          simp (maxSteps := 2000000) only [↓Za, ↓Zb, ↓Zc, vup, cond_true, cond_false, aop, Zg, ev, sput, Zf, Yk, Yl, Nat.reduceBEq, hkin]
          refine hN25 [(1, .pointer (some ⟨h.length, 0, none⟩)), (2, .slice none 0 0), (3, out), (4, Zd (s : Nat)), (5, .pointer (some ⟨hp.length, 0, none⟩)), (7, .func (.func 100) #[] #[.pointer (some ⟨hp.length, 0, none⟩)]), (11, x), (13, .slice (some ⟨G'.length + 1, 0, none⟩) n n), (26, .bool false), (51, .bool false), (83, wv), (84, Zd (W.length : Nat)), (85, Zd (k : Nat)), (86, .bool true)] _ _ ?_ (by simp (maxSteps := 2000000) only [vup, cond_true, cond_false, Nat.reduceBEq])
          clear hN25
          try clear N25
          refine Ze fun N26 hN26 => ?_
          simp (maxSteps := 2000000) only [↓Zs, ↓vdn, vup, cond_true, cond_false, Zg, ev, Nat.reduceBEq]
          refine hN26 [(1, .pointer (some ⟨h.length, 0, none⟩)), (2, .slice none 0 0), (3, out), (4, Zd (s : Nat)), (5, .pointer (some ⟨hp.length, 0, none⟩)), (7, .func (.func 100) #[] #[.pointer (some ⟨hp.length, 0, none⟩)]), (11, x), (13, .slice (some ⟨G'.length + 1, 0, none⟩) n n), (26, .bool false), (51, .bool false), (83, wv), (84, Zd (W.length : Nat)), (85, Zd (k : Nat))] _ _ ?_ (by simp (maxSteps := 2000000) only [vup, cond_true, cond_false, Nat.reduceBEq])
          clear hN26
          try clear N26
          refine Zl fun B hB => ?_
          refine Zn ?_
          refine Ze fun N27 hN27 => ?_
          simp (maxSteps := 2000000) only [↓Za, ↓Zb, ↓Zc, vup, cond_true, cond_false, aop, Zg, ev, sput, Zf, Nat.reduceBEq, (howF k).int.idx el_38 esz_3 hkc, (howF k).int.load shp_3 hkc, castI_getD]
          refine hN27 [(1, .pointer (some ⟨h.length, 0, none⟩)), (2, .slice none 0 0), (3, out), (4, Zd (s : Nat)), (5, .pointer (some ⟨hp.length, 0, none⟩)), (7, .func (.func 100) #[] #[.pointer (some ⟨hp.length, 0, none⟩)]), (11, x), (13, .slice (some ⟨G'.length + 1, 0, none⟩) n n), (14, Zd (k : Nat)), (15, Zd (W.getD k 0 : Nat)), (26, .bool false), (51, .bool false), (83, wv), (84, Zd (W.length : Nat)), (85, Zd (k : Nat))] _ _ ?_ (by simp (maxSteps := 2000000) only [vup, cond_true, cond_false, Nat.reduceBEq])
          clear hN27
          try clear N27
          refine Zi ?_
          simp (maxSteps := 2000000) only [↓Za, ↓Zb, ↓Zc, vup, cond_true, cond_false, aop, Zg, Zo, ev, sput, Zf, Nat.reduceBEq, hxF.idx el_47 esz_26 hkx, hxF.load shp_26 hkx, hgx, hidx, ofQ, hst]
          refine hB [(1, .pointer (some ⟨h.length, 0, none⟩)), (2, .slice none 0 0), (3, out), (4, Zd (s : Nat)), (5, .pointer (some ⟨hp.length, 0, none⟩)), (7, .func (.func 100) #[] #[.pointer (some ⟨hp.length, 0, none⟩)]), (11, x), (13, .slice (some ⟨G'.length + 1, 0, none⟩) n n), (26, .bool false), (51, .bool false), (83, wv), (84, Zd (W.length : Nat)), (85, Zd (k : Nat))] _ _ ?_ (by simp (maxSteps := 2000000) only [vup, cond_true, cond_false, Nat.reduceBEq])
          clear hB
          try clear B
          refine Zi ?_
          simp (maxSteps := 2000000) only [↓Za, ↓Zb, ↓Zc, vup, cond_true, cond_false, aop, ev, sput, Zf, Yk, Yl, Nat.reduceBEq, add1 (show k < 9223372036854775807 by omega)]
          exact hQb _ _ _ ⟨k + 1, hk', by omega, by simp (maxSteps := 2000000) only [vup, cond_true, cond_false, Nat.reduceBEq], rfl⟩
        have hkk := loopEnd hkin hk
        subst hkk
        refine Ze fun N28 hN28 => ?_
        simp (maxSteps := 2000000) only [↓Za, ↓Zb, ↓Zc, vup, cond_true, cond_false, aop, Zg, ev, sput, Zf, Yk, Yl, Nat.reduceBEq, hkin]
        refine hN28 [(1, .pointer (some ⟨h.length, 0, none⟩)), (2, .slice none 0 0), (3, out), (4, Zd (s : Nat)), (5, .pointer (some ⟨hp.length, 0, none⟩)), (7, .func (.func 100) #[] #[.pointer (some ⟨hp.length, 0, none⟩)]), (11, x), (13, .slice (some ⟨G'.length + 1, 0, none⟩) n n), (26, .bool false), (51, .bool false), (83, wv), (84, Zd (W.length : Nat)), (85, Zd (W.length : Nat)), (86, .bool false)] _ _ ?_ (by simp (maxSteps := 2000000) only [vup, cond_true, cond_false, Nat.reduceBEq])
        clear hN28
        try clear N28
        refine Ze fun N29 hN29 => ?_
        simp (maxSteps := 2000000) only [↓Xl, ↓vdn, vup, cond_true, cond_false, Zg, ev, Nat.reduceBEq]
        refine hQb _ _ _ (hQa _ _ _ ?_)
        simp (maxSteps := 2000000) only [Zg, Zo, if_true]
        refine hU [(1, .pointer (some ⟨h.length, 0, none⟩)), (2, .slice none 0 0), (3, out), (4, Zd (s : Nat)), (5, .pointer (some ⟨hp.length, 0, none⟩)), (7, .func (.func 100) #[] #[.pointer (some ⟨hp.length, 0, none⟩)]), (11, x), (13, .slice (some ⟨G'.length + 1, 0, none⟩) n n), (26, .bool false), (51, .bool false), (86, .bool false)] _ _ ?_ (by simp (maxSteps := 2000000) only [vup, cond_true, cond_false, Nat.reduceBEq])
        clear hU
        try clear U
        -- it is noted
        have hcF := (hcs.ext (hEG'.trans (hFE W.length)))
        obtain ⟨us, hou, heach⟩ := hcF
        have hlen3 := heach.len
        have hcl := cornersTo_len n l (s - 1)
        refine Zi ?_
        simp (maxSteps := 2000000) only [↓Za, ↓Zb, ↓Zc, vup, List.map_cons, List.map_nil, cond_true, cond_false, aop, Zg, Zo, ev, sput, Zf, Zk, Nat.reduceBEq, litV el_88 zero_90 esz_90]
        refine OwnV.app (us := [.slice (some ⟨G'.length + 1, 0, none⟩) n n]) (hou.ext (Ext.app _ _ _)) app_88_88 (.inr ⟨(F W.length).length, 0, none, 1, [.slice (some ⟨G'.length + 1, 0, none⟩) n n], 90, false, rfl, Nat.le_refl _, by simp [view, Blk.view], rfl⟩) (fun w hw => ?_) (by simp; omega) ?_
        · rcases List.mem_append.1 hw with h1 | h1
          · obtain ⟨b, bl, rfl, _⟩ := heach.mem w h1
            exact ⟨rfl, rfl⟩
          · rw [List.mem_singleton.1 h1]; exact ⟨rfl, rfl⟩
        · intro out' G3 ho3 hE3 hb3
          have hol : ∀ b, Yf out = some b → b < (F W.length).length := fun b hb => hou.lt hb
          have hHF := hEp.trans (hEG'.trans (hFE W.length))
          have hFk : Ext (fun _ => False) H G3 := ext_app hHF (H' := F W.length ++ [Blk.cells [.slice (some ⟨G'.length + 1, 0, none⟩) n n] 90 false]) (by simp) (fun z hz => List.getElem?_append_left (by have := hHF.1; omega)) hbo hE3
          have keep : ∀ bl c, (F W.length)[bl]? = some (Blk.cells c 26 false) → G3[bl]? = some (Blk.cells c 26 false) := fun bl c hbl => by
            have hlt := Yn hbl
            rw [hE3.2 bl (by rw [List.length_append]; omega) (fun hc => ?_), List.getElem?_append_left hlt, hbl]
            obtain ⟨c', hc'⟩ := hou.blk hc
            rw [hbl] at hc'
            exact absurd (Blk.cells.inj (Option.some.inj hc')).2.1 (by decide)
          refine goOn _ out' G3 ⟨us ++ [.slice (some ⟨G'.length + 1, 0, none⟩) n n], ho3, ?_⟩ hFk (fun b hb => ?_) (by simp (maxSteps := 2000000) only [vup, cond_true, cond_false, Nat.reduceBEq])
          · rw [hcsucc, hcorner]
            refine Each.app (heach.imp fun w b ⟨bl, q1, q2⟩ => ⟨bl, q1, keep bl _ q2⟩) ⟨⟨G'.length + 1, by rw [Vi], keep _ _ (hF0 _)⟩, trivial⟩
          · rcases hb3 with h1 | ⟨b', h1, h2⟩
            · exact hbo b (h1 ▸ hb)
            · rw [h1] at hb; cases hb
              rw [List.length_append] at h2
              have := hHF.1; omega
  · have hss := loopEnd hin hs
    subst hss
    refine Ze fun N30 hN30 => ?_
    simp (maxSteps := 2000000) only [↓Za, ↓Zw, ↓Xl, ↓Zb, ↓Zc, ↓vdn, vup, cond_true, cond_false, aop, Zg, ev, sput, Zf, Yk, Yl, Nat.reduceBEq, tyf, tA0, Vn t1p, Int.natCast_nonneg, hsh, hin]
    refine hQ2 _ _ _ (hQ _ _ _ ?_)
    simp (maxSteps := 2000000) only [Zg, Zo, Zu, if_true]
    refine hZ [(1, .pointer (some ⟨h.length, 0, none⟩)), (2, .slice none 0 0), (3, out), (4, Zd (2 ^ n : Nat))] _ _ ?_ (by simp (maxSteps := 2000000) only [vup, cond_true, cond_false, Nat.reduceBEq])
    clear hZ
    try clear Z
    refine Zi ?_
    simp (maxSteps := 2000000) only [↓Za, ↓Zw, ↓Zz, ↓Zb, ↓Zc, vup, cond_true, cond_false, aop, Zg, ev, sput, Zf, Nat.reduceBEq, Zu, Xx, tup]
    exact ⟨hE.trans hEp, hcs, fun b hb => by have := hbo b hb; omega⟩
end Go.Proofs.Try.Am

namespace Go.Proofs.Try.Am
open Go.Am
set_option maxRecDepth 100000
/-! 110: cmp.isNaN[int] -/
@[reducible] def q110_0 : SCode := .region [⟨some 2, .assign (.const (.bool false)), none⟩]
@[reducible] def q110_1 : SCode := .region [⟨some 3, .move (.tmp 0), none⟩,
    ⟨some 4, .move (.tmp 0), none⟩,
    ⟨some 5, .binOp .neq 3 (.tmp 3) (.tmp 4) 3, none⟩,
    ⟨some 2, .assign (.tmp 5), none⟩]
def s110 : SCode := (.seq q110_0 (.seq q110_1 .ret))
theorem s110_strip : Ya (Zv Try.f110) = s110 := by kernel_rfl
theorem s110_ok : Yp 6 (Zv Try.f110) = true := by kernel_rfl
theorem s110_call [Tabs Try.prog] {args : List Value} {h : Zh} {Q : Value → Zh → Prop} (hsz : args.length ≤ 6) (hk : aw Try.prog 6 s110 (Zu Try.prog [.tmp 2] Q) (Zp 0 args) h) : ACall Try.prog 110 args h Q :=
  acall_s Try.func110 rfl (enters_of Try.func110 (by kernel_rfl) rfl) rfl rfl (by decide) s110_strip s110_ok hsz hk

end Go.Proofs.Try.Am

namespace Go.Proofs.Try.Am
open Go.Am
set_option maxRecDepth 100000
/-! 17: planchet bets.Bounds -/
@[reducible] def q17_0 : SCode := .region [⟨some 6, .alloc 26, none⟩,
    ⟨some 7, .alloc 26, none⟩,
    ⟨some 8, .assign (.const (.int .i64 0)), none⟩]
@[reducible] def q17_1 : SCode := .region [⟨some 14, .move (.tmp 0), none⟩,
    ⟨some 15, .move (.tmp 1), none⟩,
    ⟨some 16, .build 86 #[(0, .tmp 14), (1, .tmp 15)], none⟩,
    ⟨some 9, .alloc 86, none⟩,
    ⟨none, .store 86 (.tmp 9) (.tmp 16), none⟩]
@[reducible] def q17_2 : SCode := .region [⟨some 17, .load 86 (.tmp 9), none⟩,
    ⟨some 18, .call { callee := .value (.func 58), args := #[.tmp 17], argTypes := #[86] }, none⟩,
    ⟨some 19, .unOp .not 4 (.tmp 18), none⟩,
    ⟨some 20, .move (.tmp 19), none⟩,
    ⟨some 21, .load 86 (.tmp 9), some (20, false)⟩,
    ⟨some 22, .move (.tmp 2), some (20, false)⟩,
    ⟨some 23, .call { callee := .value (.func 59), args := #[.tmp 21, .tmp 22], argTypes := #[86, 3] }, some (20, false)⟩,
    ⟨some 24, .unOp .not 4 (.tmp 23), some (20, false)⟩,
    ⟨some 25, .pick (.tmp 20) (.const (.bool true)) (.tmp 24), none⟩]
@[reducible] def q17_3 : SCode := .region [⟨some 26, .build 26 #[], none⟩,
    ⟨some 27, .build 26 #[], none⟩,
    ⟨none, .store 26 (.tmp 6) (.tmp 26), none⟩,
    ⟨none, .store 26 (.tmp 7) (.tmp 27), none⟩,
    ⟨some 8, .assign (.const (.int .i64 2)), none⟩]
@[reducible] def q17_4 : SCode := .region [⟨some 28, .load 86 (.tmp 9), none⟩,
    ⟨some 29, .call { callee := .value (.func 60), args := #[.tmp 28], argTypes := #[86] }, none⟩,
    ⟨some 10, .assign (.tmp 29), none⟩]
@[reducible] def q17_5 : SCode := .region [⟨some 30, .move (.tmp 10), none⟩,
    ⟨some 31, .call { callee := .builtin .len, args := #[.tmp 30], argTypes := #[88] }, none⟩,
    ⟨some 32, .binOp .eql 3 (.tmp 31) (.const (.int .i64 0)) 3, none⟩]
@[reducible] def q17_6 : SCode := .region [⟨some 33, .build 26 #[], none⟩,
    ⟨some 34, .build 26 #[], none⟩,
    ⟨none, .store 26 (.tmp 6) (.tmp 33), none⟩,
    ⟨none, .store 26 (.tmp 7) (.tmp 34), none⟩,
    ⟨some 8, .assign (.const (.int .i64 5)), none⟩]
def q17_7 : SCode := .draw [⟨some 35, .move (.tmp 10), none⟩,
    ⟨some 36, .indexAddr 88 (.tmp 35) (.const (.int .i64 0)), none⟩,
    ⟨some 37, .load 90 (.tmp 36), none⟩,
    ⟨some 38, .move (.tmp 2), none⟩,
    ⟨some 39, .call { callee := .value (.func 61), args := #[.tmp 37, .tmp 38], argTypes := #[90, 3] }, none⟩,
    ⟨some 40, .move (.tmp 10), none⟩,
    ⟨some 41, .indexAddr 88 (.tmp 40) (.const (.int .i64 0)), none⟩,
    ⟨some 42, .load 90 (.tmp 41), none⟩,
    ⟨some 43, .move (.tmp 2), none⟩,
    ⟨some 44, .call { callee := .value (.func 61), args := #[.tmp 42, .tmp 43], argTypes := #[90, 3] }, none⟩,
    ⟨none, .store 26 (.tmp 6) (.tmp 39), none⟩,
    ⟨none, .store 26 (.tmp 7) (.tmp 44), none⟩]
   [[], [0], [1], [], [2, 3], [], [5], [6], [], [7, 8, 4], [4, 9, 0, 1, 2, 3, 4], [9, 10, 0, 1, 2, 3, 4, 5, 6, 7, 8, 9, 10]]
@[reducible] def q17_8 : SCode := .region [⟨some 45, .move (.tmp 10), none⟩,
    ⟨some 46, .call { callee := .builtin .len, args := #[.tmp 45], argTypes := #[88] }, none⟩,
    ⟨some 47, .move (.const (.int .i64 0)), none⟩]
@[reducible] def q17_9 : SCode := .region [⟨some 48, .binOp .lss 3 (.tmp 47) (.tmp 46) 3, none⟩]
@[reducible] def q17_10 : SCode := .region [⟨some 49, .indexAddr 88 (.tmp 45) (.tmp 47), none⟩,
    ⟨some 50, .load 90 (.tmp 49), none⟩,
    ⟨some 12, .assign (.tmp 50), none⟩]
@[reducible] def q17_11 : SCode := .region [⟨some 51, .move (.tmp 12), none⟩,
    ⟨some 52, .move (.tmp 2), none⟩,
    ⟨some 53, .call { callee := .value (.func 61), args := #[.tmp 51, .tmp 52], argTypes := #[90, 3] }, none⟩,
    ⟨some 13, .alloc 26, none⟩,
    ⟨none, .store 26 (.tmp 13) (.tmp 53), none⟩]
@[reducible] def q17_12 : SCode := .region [⟨some 54, .load 26 (.tmp 13), none⟩,
    ⟨some 55, .load 26 (.tmp 6), none⟩,
    ⟨some 56, .call { callee := .value (.func 62), args := #[.tmp 54, .tmp 55], argTypes := #[26, 26] }, none⟩]
@[reducible] def q17_13 : SCode := .region [⟨some 57, .load 26 (.tmp 13), none⟩,
    ⟨none, .store 26 (.tmp 6) (.tmp 57), none⟩]
@[reducible] def q17_14 : SCode := .region [⟨some 58, .load 26 (.tmp 7), none⟩,
    ⟨some 59, .load 26 (.tmp 13), none⟩,
    ⟨some 60, .call { callee := .value (.func 62), args := #[.tmp 58, .tmp 59], argTypes := #[26, 26] }, none⟩]
@[reducible] def q17_15 : SCode := .region [⟨some 61, .load 26 (.tmp 13), none⟩,
    ⟨none, .store 26 (.tmp 7) (.tmp 61), none⟩]
@[reducible] def q17_16 : SCode := .region [⟨some 62, .binOp .add 3 (.tmp 47) (.const (.int .i64 1)) 3, none⟩,
    ⟨some 47, .move (.tmp 62), none⟩]
def l17_0 : SCode := (.seq q17_9 (.seq (.cond (.tmp 48) .skip (.exit 0)) (.seq (.block 1 (.seq q17_10 (.seq q17_11 (.seq q17_12 (.cond (.tmp 56) q17_13 (.seq q17_14 (.cond (.tmp 60) q17_15 .skip))))))) q17_16)))
def q17_17 : SCode := .draw [⟨some 63, .load 26 (.tmp 6), none⟩,
    ⟨some 64, .load 26 (.tmp 7), none⟩,
    ⟨none, .store 26 (.tmp 6) (.tmp 63), none⟩,
    ⟨none, .store 26 (.tmp 7) (.tmp 64), none⟩,
    ⟨some 8, .assign (.const (.int .i64 0)), none⟩]
   [[], [], [0, 0], [1, 2, 0, 1, 2], [3, 0, 1, 2, 3]]
def s17 : SCode := (.seq q17_0 (.seq q17_1 (.seq (.seq q17_2 (.cond (.tmp 25) (.seq q17_3 .ret) .skip)) (.seq q17_4 (.seq (.seq q17_5 (.cond (.tmp 32) (.seq q17_6 .ret) .skip)) (.seq q17_7 (.seq (.seq q17_8 (.block 0 (.loop l17_0))) (.seq q17_17 .ret))))))))
theorem s17_strip : Ya (Zv Try.f17) = s17 := by kernel_rfl
theorem s17_ok : Yp 65 (Zv Try.f17) = true := by kernel_rfl
/-! 24: planchet bets.Price -/
@[reducible] def q24_0 : SCode := .region [⟨some 6, .assign (.const (.slice none 0 0)), none⟩,
    ⟨some 7, .assign (.const (.int .i64 0)), none⟩]
@[reducible] def q24_1 : SCode := .region [⟨some 15, .move (.tmp 0), none⟩,
    ⟨some 16, .move (.tmp 1), none⟩,
    ⟨some 17, .move (.tmp 2), none⟩,
    ⟨some 18, .call { callee := .value (.func 17), args := #[.tmp 15, .tmp 16, .tmp 17], argTypes := #[3, 30, 3] }, none⟩,
    ⟨some 14, .move (.tmp 18), none⟩,
    ⟨some 19, .extract (.tmp 14) 0, none⟩,
    ⟨some 20, .extract (.tmp 14) 1, none⟩,
    ⟨some 21, .extract (.tmp 14) 2, none⟩,
    ⟨some 8, .alloc 26, none⟩,
    ⟨some 9, .alloc 26, none⟩,
    ⟨none, .store 26 (.tmp 8) (.tmp 19), none⟩,
    ⟨none, .store 26 (.tmp 9) (.tmp 20), none⟩,
    ⟨some 10, .assign (.tmp 21), none⟩]
@[reducible] def q24_2 : SCode := .region [⟨some 22, .move (.tmp 10), none⟩,
    ⟨some 23, .binOp .neq 27 (.tmp 22) (.const (.int .i64 0)) 27, none⟩]
@[reducible] def q24_3 : SCode := .region [⟨some 24, .move (.tmp 10), none⟩,
    ⟨some 6, .assign (.const (.slice none 0 0)), none⟩,
    ⟨some 7, .assign (.tmp 24), none⟩]
@[reducible] def q24_4 : SCode := .region [⟨some 11, .assign (.const (.slice none 0 0)), none⟩]
@[reducible] def q24_5 : SCode := .region [⟨some 25, .move (.const (.int .i64 0)), none⟩]
@[reducible] def q24_6 : SCode := .region [⟨some 26, .binOp .lss 3 (.tmp 25) (.const (.int .i64 13)) 3, none⟩]
@[reducible] def q24_7 : SCode := .region [⟨some 27, .move (.tmp 25), none⟩,
    ⟨some 12, .assign (.tmp 27), none⟩]
@[reducible] def q24_8 : SCode := .region [⟨some 28, .move (.tmp 12), none⟩,
    ⟨some 29, .call { callee := .value (.func 64), args := #[.tmp 28, .const (.int .i64 12)], argTypes := #[3, 3] }, none⟩,
    ⟨some 13, .alloc 26, none⟩,
    ⟨none, .store 26 (.tmp 13) (.tmp 29), none⟩]
@[reducible] def q24_9 : SCode := .region [⟨some 30, .load 26 (.tmp 13), none⟩,
    ⟨some 31, .load 26 (.tmp 8), none⟩,
    ⟨some 32, .call { callee := .value (.func 62), args := #[.tmp 30, .tmp 31], argTypes := #[26, 26] }, none⟩,
    ⟨some 33, .unOp .not 4 (.tmp 32), none⟩,
    ⟨some 34, .move (.tmp 33), none⟩,
    ⟨some 35, .load 26 (.tmp 9), some (34, true)⟩,
    ⟨some 36, .load 26 (.tmp 13), some (34, true)⟩,
    ⟨some 37, .call { callee := .value (.func 62), args := #[.tmp 35, .tmp 36], argTypes := #[26, 26] }, some (34, true)⟩,
    ⟨some 38, .unOp .not 4 (.tmp 37), some (34, true)⟩,
    ⟨some 39, .pick (.tmp 34) (.tmp 38) (.const (.bool false)), none⟩]
@[reducible] def q24_10 : SCode := .region [⟨some 40, .move (.tmp 11), none⟩,
    ⟨some 41, .move (.tmp 12), none⟩,
    ⟨some 42, .buildSlice 38 1 #[(0, .tmp 41)], none⟩,
    ⟨some 43, .call { callee := .builtin .append, args := #[.tmp 40, .tmp 42], argTypes := #[38, 38] }, none⟩,
    ⟨some 11, .assign (.tmp 43), none⟩]
@[reducible] def q24_11 : SCode := .region [⟨some 44, .binOp .add 3 (.tmp 25) (.const (.int .i64 1)) 3, none⟩,
    ⟨some 25, .move (.tmp 44), none⟩]
def l24_0 : SCode := (.seq q24_6 (.seq (.cond (.tmp 26) .skip (.exit 0)) (.seq (.block 1 (.seq q24_7 (.seq q24_8 (.seq q24_9 (.cond (.tmp 39) q24_10 .skip))))) q24_11)))
@[reducible] def q24_12 : SCode := .region [⟨some 45, .move (.tmp 11), none⟩,
    ⟨some 6, .assign (.tmp 45), none⟩,
    ⟨some 7, .assign (.const (.int .i64 0)), none⟩]
def s24 : SCode := (.seq q24_0 (.seq q24_1 (.seq (.seq q24_2 (.cond (.tmp 23) (.seq q24_3 .ret) .skip)) (.seq q24_4 (.seq (.seq q24_5 (.block 0 (.loop l24_0))) (.seq q24_12 .ret))))))
theorem s24_strip : Ya (Zv Try.f24) = s24 := by kernel_rfl
theorem s24_ok : Yp 46 (Zv Try.f24) = true := by kernel_rfl
/-! 43: slices.Contains[[]int,int] -/
@[reducible] def q43_0 : SCode := .region [⟨some 4, .assign (.const (.bool false)), none⟩]
@[reducible] def q43_1 : SCode := .region [⟨some 5, .move (.tmp 0), none⟩,
    ⟨some 6, .move (.tmp 1), none⟩,
    ⟨some 7, .call { callee := .value (.func 78), args := #[.tmp 5, .tmp 6], argTypes := #[38, 3] }, none⟩,
    ⟨some 8, .binOp .geq 3 (.tmp 7) (.const (.int .i64 0)) 3, none⟩,
    ⟨some 4, .assign (.tmp 8), none⟩]
def s43 : SCode := (.seq q43_0 (.seq q43_1 .ret))
theorem s43_strip : Ya (Zv Try.f43) = s43 := by kernel_rfl
theorem s43_ok : Yp 9 (Zv Try.f43) = true := by kernel_rfl
theorem s43_call [Tabs Try.prog] {args : List Value} {h : Zh} {Q : Value → Zh → Prop} (hsz : args.length ≤ 9) (hk : aw Try.prog 9 s43 (Zu Try.prog [.tmp 4] Q) (Zp 0 args) h) : ACall Try.prog 43 args h Q :=
  acall_s Try.func43 rfl (enters_of Try.func43 (by kernel_rfl) rfl) rfl rfl (by decide) s43_strip s43_ok hsz hk

/-! 44: slices.IsSorted[[]int,int] -/
@[reducible] def q44_0 : SCode := .region [⟨some 2, .assign (.const (.bool false)), none⟩]
@[reducible] def q44_1 : SCode := .region [⟨some 4, .move (.tmp 0), none⟩,
    ⟨some 5, .call { callee := .builtin .len, args := #[.tmp 4], argTypes := #[38] }, none⟩,
    ⟨some 6, .binOp .sub 3 (.tmp 5) (.const (.int .i64 1)) 3, none⟩,
    ⟨some 3, .assign (.tmp 6), none⟩]
@[reducible] def q44_2 : SCode := .region [⟨some 7, .move (.tmp 3), none⟩,
    ⟨some 8, .binOp .gtr 3 (.tmp 7) (.const (.int .i64 0)) 3, none⟩]
def q44_4 : SCode := .draw [⟨some 11, .move (.tmp 0), none⟩,
    ⟨some 12, .move (.tmp 3), none⟩,
    ⟨some 13, .indexAddr 38 (.tmp 11) (.tmp 12), none⟩,
    ⟨some 14, .load 3 (.tmp 13), none⟩,
    ⟨some 15, .move (.tmp 0), none⟩,
    ⟨some 16, .move (.tmp 3), none⟩,
    ⟨some 17, .binOp .sub 3 (.tmp 16) (.const (.int .i64 1)) 3, none⟩,
    ⟨some 18, .indexAddr 38 (.tmp 15) (.tmp 17), none⟩,
    ⟨some 19, .load 3 (.tmp 18), none⟩,
    ⟨some 20, .call { callee := .value (.func 79), args := #[.tmp 14, .tmp 19], argTypes := #[3, 3] }, none⟩]
   [[], [], [0, 1], [2], [], [], [5], [4, 6], [7], [3, 8]]
@[reducible] def q44_5 : SCode := .region [⟨some 2, .assign (.const (.bool false)), none⟩]
@[reducible] def q44_3 : SCode := .region [⟨some 9, .move (.tmp 3), none⟩,
    ⟨some 10, .binOp .sub 3 (.tmp 9) (.const (.int .i64 1)) 3, none⟩,
    ⟨some 3, .assign (.tmp 10), none⟩]
def l44_0 : SCode := (.seq (.seq q44_2 (.cond (.tmp 8) .skip (.exit 0))) (.seq (.block 1 (.seq q44_4 (.cond (.tmp 20) (.seq q44_5 .ret) .skip))) q44_3))
@[reducible] def q44_6 : SCode := .region [⟨some 2, .assign (.const (.bool true)), none⟩]
def s44 : SCode := (.seq q44_0 (.seq (.seq q44_1 (.block 0 (.loop l44_0))) (.seq q44_6 .ret)))
theorem s44_strip : Ya (Zv Try.f44) = s44 := by kernel_rfl
theorem s44_ok : Yp 21 (Zv Try.f44) = true := by kernel_rfl
/-! 78: slices.Index[[]int,int] -/
@[reducible] def q78_0 : SCode := .region [⟨some 4, .assign (.const (.int .i64 0)), none⟩]
@[reducible] def q78_1 : SCode := .region [⟨some 6, .move (.tmp 0), none⟩,
    ⟨some 7, .call { callee := .builtin .len, args := #[.tmp 6], argTypes := #[38] }, none⟩,
    ⟨some 8, .move (.const (.int .i64 0)), none⟩]
@[reducible] def q78_2 : SCode := .region [⟨some 9, .binOp .lss 3 (.tmp 8) (.tmp 7) 3, none⟩]
@[reducible] def q78_3 : SCode := .region [⟨some 10, .move (.tmp 8), none⟩,
    ⟨some 5, .assign (.tmp 10), none⟩]
@[reducible] def q78_4 : SCode := .region [⟨some 11, .move (.tmp 1), none⟩,
    ⟨some 12, .move (.tmp 0), none⟩,
    ⟨some 13, .move (.tmp 5), none⟩,
    ⟨some 14, .indexAddr 38 (.tmp 12) (.tmp 13), none⟩,
    ⟨some 15, .load 3 (.tmp 14), none⟩,
    ⟨some 16, .binOp .eql 3 (.tmp 11) (.tmp 15) 3, none⟩]
@[reducible] def q78_5 : SCode := .region [⟨some 17, .move (.tmp 5), none⟩,
    ⟨some 4, .assign (.tmp 17), none⟩]
@[reducible] def q78_6 : SCode := .region [⟨some 18, .binOp .add 3 (.tmp 8) (.const (.int .i64 1)) 3, none⟩,
    ⟨some 8, .move (.tmp 18), none⟩]
def l78_0 : SCode := (.seq q78_2 (.seq (.cond (.tmp 9) .skip (.exit 0)) (.seq (.block 1 (.seq q78_3 (.seq q78_4 (.cond (.tmp 16) (.seq q78_5 .ret) .skip)))) q78_6)))
@[reducible] def q78_7 : SCode := .region [⟨some 4, .assign (.const (.int .i64 (-1))), none⟩]
def s78 : SCode := (.seq q78_0 (.seq (.seq q78_1 (.block 0 (.loop l78_0))) (.seq q78_7 .ret)))
theorem s78_strip : Ya (Zv Try.f78) = s78 := by kernel_rfl
theorem s78_ok : Yp 19 (Zv Try.f78) = true := by kernel_rfl
/-! 79: cmp.Less[int] -/
@[reducible] def q79_0 : SCode := .region [⟨some 4, .assign (.const (.bool false)), none⟩]
@[reducible] def q79_1 : SCode := .region [⟨some 5, .move (.tmp 0), none⟩,
    ⟨some 6, .call { callee := .value (.func 110), args := #[.tmp 5], argTypes := #[3] }, none⟩,
    ⟨some 7, .move (.tmp 6), none⟩,
    ⟨some 8, .move (.tmp 1), some (7, true)⟩,
    ⟨some 9, .call { callee := .value (.func 110), args := #[.tmp 8], argTypes := #[3] }, some (7, true)⟩,
    ⟨some 10, .unOp .not 4 (.tmp 9), some (7, true)⟩,
    ⟨some 11, .pick (.tmp 7) (.tmp 10) (.const (.bool false)), none⟩,
    ⟨some 12, .move (.tmp 11), none⟩,
    ⟨some 13, .move (.tmp 0), some (12, false)⟩,
    ⟨some 14, .move (.tmp 1), some (12, false)⟩,
    ⟨some 15, .binOp .lss 3 (.tmp 13) (.tmp 14) 3, some (12, false)⟩,
    ⟨some 16, .pick (.tmp 12) (.const (.bool true)) (.tmp 15), none⟩,
    ⟨some 4, .assign (.tmp 16), none⟩]
def s79 : SCode := (.seq q79_0 (.seq q79_1 .ret))
theorem s79_strip : Ya (Zv Try.f79) = s79 := by kernel_rfl
theorem s79_ok : Yp 17 (Zv Try.f79) = true := by kernel_rfl
end Go.Proofs.Try.Am

namespace Go.Proofs.Try.Am
open Go.Am
set_option maxRecDepth 100000
set_option maxHeartbeats 1000000

theorem pairs_eq {xs ys : List (Int × Int)} (hl : xs.length = ys.length) (k : Nat) (hk : k ≤ xs.length) (h : ∀ i, i < k → xs.getD i (0, 0) = ys.getD i (0, 0)) (hk2 : k = xs.length) : xs = ys := by
  subst hk2
  apply List.ext_getElem hl
  intro i h1 h2
  have := h i h1
  rwa [List.getD, List.getD, List.getElem?_eq_getElem h1, List.getElem?_eq_getElem h2] at this

theorem s35_callW [Tabs Try.prog] {args : List Value} {h : Zh} {Q : Value → Zh → Prop} (hsz : args.length ≤ 26) (hk : AWS Try.prog 26 s35 (Zu Try.prog [.tmp 4] Q) (Zp 0 args) h) : ACall Try.prog 35 args h Q :=
  Yv Try.func35 rfl (enters_of Try.func35 (by kernel_rfl) rfl) rfl rfl (by decide) s35_strip s35_ok hsz hk
theorem equalF_call [Tabs prog] {h : Zh} {u v : Value} {xs ys : List (Int × Int)} (hu : PairSl h u xs) (hv : PairSl h v ys) (hl : xs.length < 9223372036854775808) : Xm prog 35 [u, v] h (.bool (decide (xs = ys))) := by
  refine s35_callW (by simp) ?_
  simp only [s35]
  refine Ze fun N1 hN1 => ?_
  simp (maxSteps := 2000000) only [↓Za, ↓Zb, ↓Zc, vup, cond_false, aop, Zg, Zp, ev, sput, Zf, Nat.reduceBEq, Nat.reduceAdd]
  refine hN1 [(0, u), (1, v), (4, .bool false)] _ _ ?_ (by simp (maxSteps := 2000000) only [vup, cond_true, cond_false, Nat.reduceBEq])
  clear hN1
  try clear N1
  by_cases hn : xs.length = ys.length
  · have hne : (((xs.length : Nat) : Int) != ((ys.length : Nat) : Int)) = false := by simp [hn]
    refine Ze fun N2 hN2 => ?_
    simp (maxSteps := 2000000) only [↓Za, ↓Zs, ↓Zw, ↓Zz, ↓Zb, ↓Zc, ↓vdn, vup, List.map_cons, List.map_nil, cond_true, cond_false, aop, Zg, ev, sput, Zf, Yk, Yl, Zk, Nat.reduceBEq, Zu, Xx, tup, tyf, hu.len, hv.len, hne]
    refine hN2 [(0, u), (1, v), (4, .bool false)] _ _ ?_ (by simp (maxSteps := 2000000) only [vup, cond_true, cond_false, Nat.reduceBEq])
    clear hN2
    try clear N2
    refine Zl fun Z hZ => ?_
    refine Ze fun N3 hN3 => ?_
    simp (maxSteps := 2000000) only [↓Za, ↓Zb, ↓Zc, vup, List.map_cons, List.map_nil, cond_true, cond_false, aop, Zg, ev, sput, Zf, Zk, Nat.reduceBEq, tyf, hu.len]
    refine hN3 [(0, u), (1, v), (4, .bool false), (11, u), (12, Zd xs.length), (13, .int .i64 0)] _ _ ?_ (by simp (maxSteps := 2000000) only [vup, cond_true, cond_false, Nat.reduceBEq])
    clear hN3
    try clear N3
    refine Zn ?_
    refine Zy fun Q hQ => ?_
    refine Xd (γ := Nat) (fun k => k ≤ xs.length ∧ ∀ i, i < k → xs.getD i (0, 0) = ys.getD i (0, 0))
      (fun k => ([(0, u), (1, v), (4, .bool false), (11, u), (12, Zd xs.length), (13, Zd (k : Nat))], h)) (fun k => xs.length - k) 0 ⟨Nat.zero_le _, fun i hi => by omega⟩ (by simp (maxSteps := 2000000) only [vup, cond_true, cond_false, Nat.reduceBEq, Int.natCast_zero]) rfl ?_
    rintro k ⟨hk, hall⟩
    refine Zy fun Q2 hQ2 => ?_
    simp only [l35_0]
    by_cases hin : (k : Int) < xs.length
    · have hk' : k < xs.length := by omega
      have hky : k < ys.length := by omega
      refine Ze fun N4 hN4 => ?_
      simp (maxSteps := 2000000) only [↓Za, ↓Zb, ↓Zc, vup, cond_true, cond_false, aop, Zg, ev, sput, Zf, Yk, Yl, Nat.reduceBEq, hin]
      refine hN4 [(0, u), (1, v), (4, .bool false), (11, u), (12, Zd xs.length), (13, Zd (k : Nat)), (14, .bool true)] _ _ ?_ (by simp (maxSteps := 2000000) only [vup, cond_true, cond_false, Nat.reduceBEq])
      clear hN4
      try clear N4
      refine Ze fun N5 hN5 => ?_
      simp (maxSteps := 2000000) only [↓Zs, ↓vdn, vup, cond_true, cond_false, Zg, ev, Nat.reduceBEq]
      refine hN5 [(0, u), (1, v), (4, .bool false), (11, u), (12, Zd xs.length), (13, Zd (k : Nat))] _ _ ?_ (by simp (maxSteps := 2000000) only [vup, cond_true, cond_false, Nat.reduceBEq])
      clear hN5
      try clear N5
      refine Zl fun B hB => ?_
      refine Zn ?_
      refine Ze fun N6 hN6 => ?_
      simp (maxSteps := 2000000) only [↓Za, ↓Zb, ↓Zc, vup, cond_true, cond_false, aop, Zg, ev, sput, Zf, Nat.reduceBEq]
      refine hN6 [(0, u), (1, v), (4, .bool false), (5, Zd (k : Nat)), (11, u), (12, Zd xs.length), (13, Zd (k : Nat))] _ _ ?_ (by simp (maxSteps := 2000000) only [vup, cond_true, cond_false, Nat.reduceBEq])
      clear hN6
      try clear N6
      obtain ⟨⟨x, y⟩, hxy⟩ : ∃ p, xs.getD k (0, 0) = p := ⟨_, rfl⟩
      obtain ⟨⟨z, w⟩, hzw⟩ : ∃ p, ys.getD k (0, 0) = p := ⟨_, rfl⟩
      refine Zi ?_
      simp only [q35_6]
      refine aw_cut fun D hD => ?_
      refine Wl [] (by kernel_rfl) (by kernel_rfl) (by kernel_rfl) (by kernel_rfl) ?_
      simp (maxSteps := 2000000) only [↓Xj, ↓vdn, vup, cond_true, cond_false, aop, Zg, ev, sput, Zf, Yk, Yl, Nat.reduceBEq, Nat.reduceAdd, hu.idx el_47 esz_26 hk', hu.load shp_26 hk', hv.idx el_47 esz_26 hky, hv.load shp_26 hky, hxy, hzw, Xa, Option.map_some, List.length_cons, List.length_nil, Nat.zero_add, eqF]
      refine hD _ _ ?_
      by_cases he : x = z ∧ y = w
      · obtain ⟨rfl, rfl⟩ := he
        have hb : (([x, y] : List Int) != [x, y]) = false := by simp
        simp (maxSteps := 2000000) only [↓Zs, ↓vdn, vup, cond_true, cond_false, Zg, Zo, ev, Nat.reduceBEq, hb]
        refine hB [(0, u), (1, v), (4, .bool false), (11, u), (12, Zd xs.length), (13, Zd (k : Nat))] _ _ ?_ (by simp (maxSteps := 2000000) only [vup, cond_true, cond_false, Nat.reduceBEq])
        clear hB
        try clear B
        refine Zi ?_
        simp (maxSteps := 2000000) only [↓Za, ↓Zb, ↓Zc, vup, cond_true, cond_false, aop, ev, sput, Zf, Yk, Yl, Nat.reduceBEq, add1 (show k < 9223372036854775807 by omega)]
        refine hQ2 _ _ _ ⟨k + 1, ⟨hk', fun i hi => ?_⟩, by omega, by simp (maxSteps := 2000000) only [vup, cond_true, cond_false, Nat.reduceBEq], rfl⟩
        rcases Nat.lt_or_ge i k with h1 | h1
        · exact hall i h1
        · rw [show i = k by omega, hxy, hzw]
      · have hb : (([x, y] : List Int) != [z, w]) = true := by
          simp only [bne, Bool.not_eq_true', beq_eq_false_iff_ne, ne_eq, List.cons.injEq, and_true]
          exact he
        simp (maxSteps := 2000000) only [↓Za, ↓Zw, ↓Zz, ↓Zb, ↓Zc, ↓vdn, vup, cond_true, cond_false, aop, Zg, Zo, ev, sput, Zf, Nat.reduceBEq, hb]
        refine hQ2 _ _ _ (hQ _ _ _ ?_)
        have hd : decide (xs = ys) = false := by
          rw [decide_eq_false_iff_not]
          rintro rfl
          rw [hxy] at hzw
          exact he (Prod.mk.inj hzw)
        simp (maxSteps := 2000000) only [vup, cond_true, cond_false, Zg, Zo, Nat.reduceBEq, Zu, Xx, tup, hd]
    · obtain rfl : k = xs.length := by omega
      refine Ze fun N7 hN7 => ?_
      simp (maxSteps := 2000000) only [↓Za, ↓Zb, ↓Zc, vup, cond_true, cond_false, aop, Zg, ev, sput, Zf, Yk, Yl, Nat.reduceBEq, hin]
      refine hN7 [(0, u), (1, v), (4, .bool false), (11, u), (12, Zd xs.length), (13, Zd xs.length), (14, .bool false)] _ _ ?_ (by simp (maxSteps := 2000000) only [vup, cond_true, cond_false, Nat.reduceBEq])
      clear hN7
      try clear N7
      refine Ze fun N8 hN8 => ?_
      simp (maxSteps := 2000000) only [↓Xl, ↓vdn, vup, cond_true, cond_false, Zg, ev, Nat.reduceBEq]
      refine hQ2 _ _ _ (hQ _ _ _ ?_)
      simp (maxSteps := 2000000) only [Zg, Zo, Zu, if_true]
      refine hZ [(0, u), (1, v), (4, .bool false), (11, u), (12, Zd xs.length), (13, Zd xs.length), (14, .bool false)] _ _ ?_ (by simp (maxSteps := 2000000) only [vup, cond_true, cond_false, Nat.reduceBEq])
      clear hZ
      try clear Z
      refine Zi ?_
      have hd : decide (xs = ys) = true := by
        rw [decide_eq_true_eq]; exact pairs_eq hn _ (Nat.le_refl _) hall rfl
      simp (maxSteps := 2000000) only [↓Za, ↓Zw, ↓Zz, ↓Zb, ↓Zc, vup, cond_true, cond_false, aop, Zg, ev, sput, Zf, Nat.reduceBEq, Zu, Xx, tup, hd]
  · have hne : (((xs.length : Nat) : Int) != ((ys.length : Nat) : Int)) = true := by
      have : ¬ ((xs.length : Nat) : Int) = ((ys.length : Nat) : Int) := by omega
      simpa [bne] using this
    refine Zi ?_
    have hd : decide (xs = ys) = false := by
      rw [decide_eq_false_iff_not]
      rintro rfl; exact hn rfl
    simp (maxSteps := 2000000) only [↓Za, ↓Zs, ↓Zw, ↓aw_block, ↓Zz, ↓Zb, ↓Zc, ↓vdn, vup, List.map_cons, List.map_nil, cond_true, cond_false, aop, Zg, ev, sput, Zf, Yk, Yl, Zk, Nat.reduceBEq, Zu, Xx, tup, tyf, hu.len, hv.len, hne, hd]
end Go.Proofs.Try.Am

namespace Go.Proofs.Try.Am
open Go.Am Bq
set_option maxRecDepth 100000
set_option maxHeartbeats 2000000

theorem pairSl_shape {h : Zh} {v : Value} {l : List (Int × Int)} (hv : PairSl h v l) : ∃ p n c, v = .slice p n c := by
  rcases hv with ⟨rfl, _⟩ | ⟨b, o, sp, cap, c, e, ro, rfl, _⟩
  · exact ⟨_, _, _, rfl⟩
  · exact ⟨_, _, _, rfl⟩
theorem bldT {n : Int} {p : Option Addr} {m c : Nat} {K : Value → Prop} : Wx prog 86 [(0, Zd n), (1, .slice p m c)] K = K (.agg #[Zd n, .slice p m c]) := by
  simp [Wx, zero_86, fillL, pl_86_0, pl_86_1, Wd, cellsOf, Yc]
theorem storeT {h : Zh} {b : Nat} {n : Int} {p : Option Addr} {m k : Nat} {e : TypeId} {c : List Value} {K : Zh → Prop} (hb : h[b]? = some (.cells c e false)) (hc : c.length = 2) : Xh prog h 86 (.pointer (some ⟨b, 0, none⟩)) (.agg #[Zd n, .slice p m k]) K = K (h.set b (.cells [Zd n, .slice p m k] e false)) :=
  storeA (vs := [Zd n, .slice p m k]) hb (by rw [shp_86]; rfl) rfl (by rw [hc]; rfl)
theorem loadT {h : Zh} {b : Nat} {n : Int} {v : Value} {K : Value → Prop} (hb : h[b]? = some (.cells [Zd n, v] 86 false)) : Xu prog h 86 (.pointer (some ⟨b, 0, none⟩)) K = K (.agg #[Zd n, v]) :=
  loadA hb (by rw [shp_86]; rfl)

/-- What Sound hands back. -/
def SoundIs (n : Int) (l : List (Int × Int)) (h' : Zh) (x : Value) (e : Int) : Prop :=
  if Yu n l = true then (match Yb n.toNat l with | [] => x = .slice none 0 0 ∧ e = 5 | c :: _ => e = 0 ∧ BelAt h' x c) else x = .slice none 0 0 ∧ e = 2
theorem s36_callW [Tabs Try.prog] {args : List Value} {h : Zh} {Q : Value → Zh → Prop} (hsz : args.length ≤ 22) (hk : AWS Try.prog 22 s36 (Zu Try.prog [.tmp 4, .tmp 5] Q) (Zp 0 args) h) : ACall Try.prog 36 args h Q :=
  Yv Try.func36 rfl (enters_of Try.func36 (by kernel_rfl) rfl) rfl rfl (by decide) s36_strip s36_ok hsz hk
theorem sound_call [Tabs prog] {h : Zh} {n : Int} {v : Value} {l : List (Int × Int)} (hv : PairSl h v l) (hl : l.length < 9223372036854775808) (ht : Yu n l = true → TameAll n.toNat l) :
    ACall prog 36 [Zd n, v] h fun r h' => Ext (fun _ => False) h h' ∧ ∃ x e, r = .tuple #[x, .int .i64 e] ∧ SoundIs n l h' x e := by
  obtain ⟨p, m, c, rfl⟩ := pairSl_shape hv
  obtain ⟨H, hH⟩ : ∃ H, H = h ++ [Blk.cells [Zd n, .slice p m c] 86 false] := ⟨_, rfl⟩
  have hE : Ext (fun _ => False) h H := by rw [hH]; exact Ext.app _ _ _
  have b6 : H[h.length]? = some (.cells [Zd n, .slice p m c] 86 false) := by rw [hH]; exact Yh _ _
  have hvH := hv.ext hE
  refine s36_callW (by simp) ?_
  simp only [s36]
  refine Ze fun N1 hN1 => ?_
  simp (maxSteps := 2000000) only [↓Za, ↓Zb, ↓Zc, vup, cond_false, aop, Zg, Zp, ev, sput, Zf, Nat.reduceBEq, Nat.reduceAdd]
  refine hN1 [(0, Zd n), (1, .slice p m c), (4, .slice none 0 0), (5, .int .i64 0)] _ _ ?_ (by simp (maxSteps := 2000000) only [vup, cond_true, cond_false, Nat.reduceBEq])
  clear hN1
  try clear N1
  refine Ze fun N2 hN2 => ?_
  simp (maxSteps := 2000000) only [↓Za, ↓Zb, ↓Zc, vup, List.map_cons, List.map_nil, cond_true, cond_false, aop, Zg, ev, sput, Zf, Nat.reduceBEq, tyf, bldT, Xn, Yx, storeT (Yh h (.cells [.int .i64 0, .slice none 0 0] 86 false)) rfl, Xy]
  rw [← hH]
  refine hN2 [(4, .slice none 0 0), (5, .int .i64 0), (6, .pointer (some ⟨h.length, 0, none⟩))] _ _ ?_ (by simp (maxSteps := 2000000) only [vup, cond_true, cond_false, Nat.reduceBEq])
  clear hN2
  try clear N2
  refine Zl fun M hM => ?_
  refine Ze fun N3 hN3 => ?_
  simp (maxSteps := 2000000) only [↓Za, ↓Zb, ↓Zc, vup, List.map_cons, List.map_nil, cond_true, cond_false, aop, Zg, ev, sput, Zf, unK, Nat.reduceBEq, Yr, List.nil_append, List.append_nil, loadT b6]
  refine (valid_call hvH hl).mono ?_
  rintro _ H ⟨rfl, rfl⟩
  refine hN3 [(4, .slice none 0 0), (5, .int .i64 0), (6, .pointer (some ⟨h.length, 0, none⟩)), (13, .bool (!Yu n l))] _ _ ?_ (by simp (maxSteps := 2000000) only [vup, cond_true, cond_false, Nat.reduceBEq])
  clear hN3
  try clear N3
  cases hval : Yu n l with
  | false =>
    refine Xr rfl ?_
    refine Zi ?_
    simp (maxSteps := 2000000) only [↓Za, ↓Zw, ↓Zz, ↓Zb, ↓Zc, vup, cond_true, cond_false, aop, Zg, ev, sput, Zf, Nat.reduceBEq, Zu, Xx, tup]
    exact ⟨hE, _, _, rfl, by rw [SoundIs, if_neg (by simp [hval])]; exact ⟨rfl, rfl⟩⟩
  | true =>
    refine Yz rfl ?_
    refine Zi ?_
    simp (maxSteps := 2000000) only [↓Zs, vup, Zg]
    refine hM [(4, .slice none 0 0), (5, .int .i64 0), (6, .pointer (some ⟨h.length, 0, none⟩))] _ _ ?_ (by simp (maxSteps := 2000000) only [vup, cond_true, cond_false, Nat.reduceBEq])
    clear hM
    try clear M
    have hn : n = (n.toNat : Int) := by
      simp only [Yu, Bool.and_eq_true, decide_eq_true_eq] at hval; omega
    have hcor := corners_call (n := n.toNat) hvH (by rw [← hn]; exact hval) (ht hval)
    rw [← hn] at hcor
    refine Ze fun N4 hN4 => ?_
    simp (maxSteps := 2000000) only [↓Za, ↓Zb, ↓Zc, vup, List.map_cons, List.map_nil, cond_true, cond_false, aop, Zg, ev, sput, Zf, Nat.reduceBEq, Yr, List.nil_append, List.append_nil, loadT b6]
    refine (hcor).mono ?_
    rintro r H1 ⟨hE1, ⟨ws, hor, heach⟩, hb⟩
    refine hN4 [(4, .slice none 0 0), (5, .int .i64 0), (6, .pointer (some ⟨h.length, 0, none⟩)), (7, r)] _ _ ?_ (by simp (maxSteps := 2000000) only [vup, cond_true, cond_false, Nat.reduceBEq])
    clear hN4
    try clear N4
    have hEE := hE.trans hE1
    have hlen := heach.len
    refine Zi ?_
    have his : ∀ x e, SoundIs n l H1 x e ↔ (match Yb n.toNat l with | [] => x = .slice none 0 0 ∧ e = 5 | c :: _ => e = 0 ∧ BelAt H1 x c) := fun x e => by rw [SoundIs, if_pos hval]
    cases hc : Yb n.toNat l with
    | nil =>
      rw [hc] at hlen heach
      have h0 : (((ws.length : Nat) : Int) == 0) = true := by simp [hlen]
      simp (maxSteps := 2000000) only [↓Za, ↓Zs, ↓Zw, ↓Zz, ↓Zb, ↓Zc, ↓vdn, vup, List.map_cons, List.map_nil, cond_true, cond_false, aop, Zg, ev, sput, Zf, Yk, Yl, Zk, Nat.reduceBEq, Zu, Xx, tup, tyf, hor.val.len, h0]
      exact ⟨hEE, _, _, rfl, (his _ _).2 (by rw [hc]; exact ⟨rfl, rfl⟩)⟩
    | cons c0 cs =>
      rw [hc] at hlen heach
      have hpos : 0 < ws.length := by rw [hlen]; simp
      have h0 : (((ws.length : Nat) : Int) == 0) = false := beq_eq_false_iff_ne.2 (by omega)
      have hi0 : ∀ K : Value → Prop, Xc prog 88 r (.int .i64 0) K = K (Vj r 1 0) := fun K => by
        have := hor.val.idx el_88 esz_90 (k := .i64) hpos K
        simpa using this
      simp (maxSteps := 2000000) only [↓Za, ↓Zs, ↓Zw, ↓Zz, ↓Zb, ↓Zc, ↓vdn, vup, List.map_cons, List.map_nil, cond_true, cond_false, aop, Zg, ev, sput, Zf, Yk, Yl, Zk, Nat.reduceBEq, Zu, Xx, tup, tyf, hor.val.len, h0, hi0, hor.val.load shp_90 hpos]
      have hbel := heach.get undef [] (k := 0) (by simp)
      exact ⟨hEE, _, _, rfl, (his _ _).2 (by rw [hc]; exact ⟨rfl, hbel⟩)⟩

theorem s21_callW [Tabs Try.prog] {args : List Value} {h : Zh} {Q : Value → Zh → Prop} (hsz : args.length ≤ 18) (hk : AWS Try.prog 18 s21 (Zu Try.prog [.tmp 0] Q) (Zp 0 args) h) : ACall Try.prog 21 args h Q :=
  Yv Try.func21 rfl (enters_of Try.func21 (by kernel_rfl) rfl) rfl rfl (by decide) s21_strip s21_ok hsz hk
theorem awake_call [Tabs prog] {h : Zh} : Xm prog 21 [] h (.bool true) := by
  refine ACall.forget (Low.bool _) ?_
  refine s21_callW (by simp) ?_
  simp only [s21]
  have bldB : ∀ {x y : Int} {K : Value → Prop}, Wx prog 92 [(0, Zd x), (1, Zd y)] K = K (.agg #[Zd x, Zd y]) := fun {x y K} => by
    simp [Wx, zero_92, fillL, pl_92_0, pl_92_1, Wd, cellsOf, Yc]
  have lit : ∀ {K : Value → Zh → Prop}, Yj prog h 30 1 [(0, .agg #[Zd 1, Zd 6])] K = K (.slice (some ⟨h.length, 0, none⟩) 1 1) (h ++ [.ints [1, 6] 92 false]) := fun {K} => by
    simp only [Yj, el_30, zero_92, esz_92, reps, fillL, mkb, Wd, cellsOf, List.length_cons, List.length_nil, Nat.zero_add, Nat.zero_mul, Yc]
    refine propext ⟨fun h => ?_, fun h => ⟨trivial, by decide, by decide, ?_⟩⟩
    · simpa [Xa] using h.2.2.2
    · simpa [Xa] using h
  have hp : PairSl (h ++ [.ints [1, 6] 92 false]) (.slice (some ⟨h.length, 0, none⟩) 1 1) [(1, 6)] := .inr ⟨h.length, 0, none, 1, [Zd 1, Zd 6], 92, false, rfl, Nat.le_refl _, by simp [view, Blk.view], fun i hi => by
    obtain rfl : i = 0 := by simpa using hi
    exact ⟨rfl, rfl⟩⟩
  have hv : Yu 2 [(1, 6)] = true := by decide
  refine Ze fun N5 hN5 => ?_
  simp (maxSteps := 2000000) only [↓Za, ↓Zb, ↓Zc, vup, aop, Zg, Zp, ev, sput, Zf]
  refine hN5 [(0, .bool false)] _ _ ?_ (by simp (maxSteps := 2000000) only [vup, cond_true, Nat.reduceBEq])
  clear hN5
  try clear N5
  refine Ze fun N6 hN6 => ?_
  simp (maxSteps := 2000000) only [↓Za, ↓Zb, ↓Zc, vup, List.map_cons, List.map_nil, cond_true, cond_false, aop, Zg, ev, sput, Zf, Nat.reduceBEq, bldB, lit, Yr, List.nil_append, List.append_nil]
  refine (sound_call (n := 2) hp (by decide) fun _ => tame_awake).mono ?_
  rintro r h1 ⟨hE1, x, e, rfl, hs⟩
  rw [SoundIs, if_pos hv, show (2 : Int).toNat = 2 from rfl, corners_awake] at hs
  simp only at hs
  obtain ⟨rfl, bl, rfl, hbl⟩ := hs
  have hE : Ext (fun _ => False) h h1 := (Ext.app _ _ _).trans hE1
  have px := pairSl_cells hbl
  have hlist : ([1 / 2, 1 / 2] : List Rat).map ofQ = [(1, 2), (1, 2)] := by decide +kernel
  rw [hlist] at px
  simp (maxSteps := 2000000) only [extr_20, extr_21, Nat.reduceAdd, List.length_cons, List.length_nil]
  refine hN6 [(0, .bool false), (1, .slice (some ⟨bl, 0, none⟩) 2 2), (2, .int .i64 0)] _ _ ?_ (by simp (maxSteps := 2000000) only [vup, cond_true, cond_false, Nat.reduceBEq])
  clear hN6
  try clear N6
  have lit2 : ∀ {K : Value → Zh → Prop}, Yj prog h1 47 2 [(0, .agg #[Zd 1, Zd 2]), (1, .agg #[Zd 1, Zd 2])] K = K (.slice (some ⟨h1.length, 0, none⟩) 2 2) (h1 ++ [.ints [1, 2, 1, 2] 26 false]) := fun {K} => by
    simp [Yj, el_47, zero_26, esz_26, reps, fillL, mkb, Wd, cellsOf, Yc, Xa]
  have p2 : PairSl (h1 ++ [.ints [1, 2, 1, 2] 26 false]) (.slice (some ⟨h1.length, 0, none⟩) 2 2) [(1, 2), (1, 2)] := .inr ⟨h1.length, 0, none, 2, [Zd 1, Zd 2, Zd 1, Zd 2], 26, false, rfl, Nat.le_refl _, by simp [view, Blk.view], fun i hi => by
    have : i = 0 ∨ i = 1 := by simp at hi; omega
    rcases this with rfl | rfl <;> exact ⟨rfl, rfl⟩⟩
  have eq := equalF_call (px.ext (Ext.app _ _ _)) p2 (by decide)
  refine Zi ?_
  simp (maxSteps := 2000000) only [↓Za, ↓Zw, ↓Zz, ↓Zb, ↓Zc, ↓vdn, vup, List.map_cons, List.map_nil, cond_true, cond_false, aop, Zg, ev, sput, Zf, Yk, Yl, Nat.reduceBEq, Int.reduceBEq, Zu, Xx, tup, Yr, List.nil_append, List.append_nil, bldF, lit2]
  refine (eq).mono ?_
  rintro _ _ ⟨rfl, rfl⟩
  simp (maxSteps := 2000000) only [vup]
  exact hE.trans (Ext.app _ _ _)
end Go.Proofs.Try.Am

namespace Go.Proofs.Try.Am
open Go.Am Bq
set_option maxRecDepth 100000
set_option maxHeartbeats 4000000

/-- It sums to one, and has each bet's price. -/
def agB (l ps : List (Int × Int)) : Bool := decide (Zt (fq ps) ps.length = 1) && l.all fun b => decide (Zt (inEv (fq ps) b.1.toNat) ps.length = Rat.divInt b.2 12)

end Go.Proofs.Try.Am

namespace Go.Proofs.Try.Am
open Go.Am Bq
set_option maxRecDepth 100000
set_option maxHeartbeats 1000000

end Go.Proofs.Try.Am

namespace Go.Proofs.Try.Am
open Go.Am Bq
set_option maxRecDepth 100000
set_option maxHeartbeats 1000000

end Go.Proofs.Try.Am

namespace Go.Proofs.Try.Am
open Go.Am Bq
set_option maxRecDepth 100000
set_option maxHeartbeats 1000000

end Go.Proofs.Try.Am

namespace Bq

/-- A row left out. -/
def skp (i r : Nat) : Nat := if r < i then r else r + 1
def sgn : Nat → Rat
  | 0 => 1
  | n + 1 => - sgn n
/-- Columns, rows in them. -/
def det : Nat → (Nat → Nat → Rat) → Rat
  | 0, _ => 1
  | n + 1, M => Zt (fun i => sgn i * M 0 i * det n (fun c r => M (c + 1) (skp i r))) (n + 1)

theorem skp_lt {i r n : Nat} (h : r < n) : skp i r < n + 1 := by rw [skp]; split <;> omega
theorem Wu : ∀ (n : Nat) {M N : Nat → Nat → Rat}, (∀ c r, c < n → r < n → M c r = N c r) → det n M = det n N
  | 0, _, _, _ => rfl
  | n + 1, M, N, h => by
    rw [det, det]
    refine Zj fun i hi => ?_
    rw [h 0 i (by omega) hi, Wu n fun c r hc hr => h (c + 1) (skp i r) (by omega) (skp_lt hr)]
/-- The first column as a sum. -/
theorem det_lin {n : Nat} {M : Nat → Nat → Rat} (a b : Nat → Rat) (s : Rat) (h : ∀ r, r < n + 1 → M 0 r = a r + s * b r) :
    det (n + 1) M = det (n + 1) (fun c => if c = 0 then a else M c) + s * det (n + 1) (fun c => if c = 0 then b else M c) := by
  simp only [det, if_true]
  rw [← Xb, ← Wc]
  refine Zj fun i hi => ?_
  simp only [show ∀ c, (c + 1 = 0) = False from fun c => by simp, if_false]
  rw [h i hi]; grind
theorem Wy {g : Nat → Rat} {n : Nat} (h : ∀ i, i < n → g i = 0) : Zt g n = 0 := by
  induction n with
  | zero => rfl
  | succ n ih => rw [Zt, ih fun i hi => h i (by omega), h n (by omega)]; exact Rat.zero_add _
theorem det_zero {n : Nat} {M : Nat → Nat → Rat} (h : ∀ r, r < n + 1 → M 0 r = 0) : det (n + 1) M = 0 := by
  rw [det]
  refine Wy fun i hi => ?_
  rw [h i hi]; grind
theorem sgn_sq (a : Nat) : sgn a * sgn a = 1 := by
  induction a with
  | zero => rw [sgn, Rat.mul_one]
  | succ a ih => rw [sgn]; grind
/-- All pairs of different ones, two by two. -/
theorem sum_pairs (t : Nat → Nat → Rat) : ∀ N, Zt (fun i => Zt (fun j => t i j) N) (N + 1) = Zt (fun i => Zt (fun j => t i j + t j (i - 1)) i) (N + 1)
  | 0 => rfl
  | N + 1 => by
    have ih := sum_pairs t N
    rw [Zt]
    have e : Zt (fun i => Zt (fun j => t i j) (N + 1)) (N + 1) = Zt (fun i => Zt (fun j => t i j) N + t i N) (N + 1) := Zj fun i hi => rfl
    rw [e, Wc, ih]
    conv => rhs; rw [Zt]
    rw [Wc (fun j => t (N + 1) j) (fun j => t j (N + 1 - 1)) (N + 1), show N + 1 - 1 = N from rfl]
    grind
theorem skp_skp {i j r : Nat} (h : j < i) : skp i (skp j r) = skp j (skp (i - 1) r) := by
  simp only [skp]
  by_cases h1 : r < j
  · simp [h1, show r < i by omega, show r < i - 1 by omega]
  · by_cases h2 : r < i - 1
    · simp [h1, h2, show r + 1 < i by omega]
    · simp [h1, h2, show ¬ r + 1 < i by omega, show ¬ r + 1 < j by omega]
def swp (a : Nat) (c : Nat) : Nat := if c = a then a + 1 else if c = a + 1 then a else c
theorem det_two (n : Nat) (M : Nat → Nat → Rat) : det (n + 2) M = Zt (fun i => Zt (fun j => sgn i * sgn j * (M 0 i * M 1 j - M 0 j * M 1 i) * det n (fun c r => M (c + 2) (skp i (skp j r)))) i) (n + 2) := by
  have e1 : det (n + 2) M = Zt (fun i => Zt (fun j => sgn i * M 0 i * (sgn j * M 1 (skp i j) * det n (fun c r => M (c + 2) (skp i (skp j r))))) (n + 1)) (n + 2) := by
    rw [det]
    refine Zj fun i hi => ?_
    rw [det, Xb]
  rw [e1, sum_pairs]
  refine Zj fun i hi => Zj fun j hj => ?_
  have h1 : skp i j = j := by rw [skp, if_pos hj]
  have h2 : skp j (i - 1) = i := by rw [skp, if_neg (by omega)]; omega
  have h3 : det n (fun c r => M (c + 2) (skp j (skp (i - 1) r))) = det n (fun c r => M (c + 2) (skp i (skp j r))) := Wu n fun c r hc hr => by rw [skp_skp hj]
  have h4 : sgn i = - sgn (i - 1) := by
    obtain ⟨i, rfl⟩ : ∃ k, i = k + 1 := ⟨i - 1, by omega⟩
    rfl
  rw [h1, h2, h3, h4]; grind
theorem det_swp : ∀ (a n : Nat) (M : Nat → Nat → Rat), a + 1 < n → det n (fun c => M (swp a c)) = - det n M
  | 0, n, M, h => by
    obtain ⟨n, rfl⟩ : ∃ k, n = k + 2 := ⟨n - 2, by omega⟩
    rw [det_two, det_two]
    have e : - Zt (fun i => Zt (fun j => sgn i * sgn j * (M 0 i * M 1 j - M 0 j * M 1 i) * det n (fun c r => M (c + 2) (skp i (skp j r)))) i) (n + 2) = Zt (fun i => Zt (fun j => sgn i * sgn j * (M 1 i * M 0 j - M 1 j * M 0 i) * det n (fun c r => M (c + 2) (skp i (skp j r)))) i) (n + 2) := by
      have := Xb (-1) (fun i => Zt (fun j => sgn i * sgn j * (M 0 i * M 1 j - M 0 j * M 1 i) * det n (fun c r => M (c + 2) (skp i (skp j r)))) i) (n + 2)
      rw [show ∀ x : Rat, -x = -1 * x from fun x => by grind, ← this]
      refine Zj fun i hi => ?_
      rw [← Xb]
      refine Zj fun j hj => ?_
      grind
    rw [e]
    refine Zj fun i hi => Zj fun j hj => ?_
    have e0 : swp 0 0 = 1 := rfl
    have e1 : swp 0 1 = 0 := rfl
    have e2 : ∀ c, swp 0 (c + 2) = c + 2 := fun c => by simp [swp]
    simp only [e0, e1, e2]
  | a + 1, n, M, h => by
    obtain ⟨n, rfl⟩ : ∃ k, n = k + 1 := ⟨n - 1, by omega⟩
    rw [det, det]
    have := Xb (-1) (fun i => sgn i * M 0 i * det n (fun c r => M (c + 1) (skp i r))) (n + 1)
    rw [show ∀ x : Rat, -x = -1 * x from fun x => by grind, ← this]
    refine Zj fun i hi => ?_
    have e0 : swp (a + 1) 0 = 0 := by simp [swp]
    have e1 : ∀ c, swp (a + 1) (c + 1) = swp a c + 1 := fun c => by
      simp only [swp]
      by_cases h1 : c = a
      · simp [h1]
      · by_cases h2 : c = a + 1
        · simp [h2]
        · simp [h1, h2]
    have ih := det_swp a n (fun c r => M (c + 1) (skp i r)) (by omega)
    simp only [e0, e1]
    rw [ih]; grind
/-- Two columns alike. -/
theorem det_same : ∀ (n t : Nat) (M : Nat → Nat → Rat), t + 1 < n → (∀ r, r < n → M 0 r = M (t + 1) r) → det n M = 0
  | 0, t, M, h, _ => by omega
  | n + 1, 0, M, h, he => by
    have h1 := det_swp 0 (n + 1) M h
    have h2 : det (n + 1) (fun c => M (swp 0 c)) = det (n + 1) M := Wu _ fun c r hc hr => by
      simp only [swp]
      by_cases h3 : c = 0
      · subst h3; simp only [if_true]; exact (he r hr).symm
      · by_cases h4 : c = 0 + 1
        · subst h4; simp only [show ¬ (0 + 1 = 0) by omega, if_false, if_true]; exact he r hr
        · simp only [h3, h4, if_false]
    rw [h2] at h1
    grind
  | n + 1, t + 1, M, h, he => by
    have h1 := det_swp 0 (n + 1) M (by omega)
    have h2 : det (n + 1) (fun c => M (swp 0 c)) = 0 := by
      rw [det]
      refine Wy fun i hi => ?_
      have h0 : det n (fun c r => M (swp 0 (c + 1)) (skp i r)) = 0 := by
        refine det_same n t _ (by omega) fun r hr => ?_
        have e1 : swp 0 (0 + 1) = 0 := rfl
        have e2 : swp 0 (t + 1 + 1) = t + 1 + 1 := by simp [swp]
        simp only [e1, e2]
        exact he _ (skp_lt hr)
      rw [h0]; grind
    rw [h2] at h1
    grind
/-- One number below a column's head alone. -/
theorem det_last {n : Nat} {M : Nat → Nat → Rat} (h : ∀ r, r < n → M 0 r = 0) : det (n + 1) M = sgn n * M 0 n * det n (fun c r => M (c + 1) r) := by
  rw [det, Zt, Wy fun i hi => by rw [h i hi]; grind, Rat.zero_add]
  rw [Wu n fun c r hc hr => by rw [skp, if_pos hr]]
/-- A column brought to the head. -/
def bring (t c : Nat) : Nat := if c = 0 then t else if c ≤ t then c - 1 else c
theorem det_bring : ∀ (t n : Nat) (M : Nat → Nat → Rat), t < n → det n (fun c => M (bring t c)) = sgn t * det n M
  | 0, n, M, h => by
    rw [sgn, Rat.one_mul]
    refine Wu n fun c r hc hr => ?_
    have : bring 0 c = c := by simp only [bring]; split <;> (try split) <;> omega
    rw [this]
  | t + 1, n, M, h => by
    have h1 := det_bring t n (fun c => M (swp t c)) (by omega)
    have h2 := det_swp t n M h
    rw [h2] at h1
    have h3 : det n (fun c => M (bring (t + 1) c)) = det n (fun c => M (swp t (bring t c))) := Wu n fun c r hc hr => by
      have : bring (t + 1) c = swp t (bring t c) := by
        simp only [bring, swp]
        by_cases h0 : c = 0
        · simp [h0]
        · by_cases h4 : c ≤ t
          · simp [h0, h4, show c ≤ t + 1 by omega, show c - 1 ≠ t by omega, show c - 1 ≠ t + 1 by omega]
          · by_cases h5 : c = t + 1
            · simp [h5]
            · simp [h0, h4, show ¬ c ≤ t + 1 by omega, show c ≠ t by omega, h5]
      rw [this]
    rw [h3, h1, sgn]; grind

/-! Sizes. -/
def Zq (b : Nat) (q : Rat) : Prop := ∃ z : Int, q = (z : Rat) ∧ z.natAbs ≤ b
theorem Zq.add {a b : Nat} {p q : Rat} (h1 : Zq a p) (h2 : Zq b q) : Zq (a + b) (p + q) := by
  obtain ⟨x, rfl, hx⟩ := h1
  obtain ⟨y, rfl, hy⟩ := h2
  exact ⟨x + y, (Rat.intCast_add x y).symm, by omega⟩
theorem Zq.mul {a b : Nat} {p q : Rat} (h1 : Zq a p) (h2 : Zq b q) : Zq (a * b) (p * q) := by
  obtain ⟨x, rfl, hx⟩ := h1
  obtain ⟨y, rfl, hy⟩ := h2
  exact ⟨x * y, (Rat.intCast_mul x y).symm, by rw [Int.natAbs_mul]; exact Nat.mul_le_mul hx hy⟩
theorem Zq.mono {a b : Nat} {p : Rat} (h : Zq a p) (hab : a ≤ b) : Zq b p := by
  obtain ⟨x, e, hx⟩ := h
  exact ⟨x, e, by omega⟩
theorem Zq.zero (b : Nat) : Zq b 0 := ⟨0, rfl, by simp⟩
theorem Zq.sgn (i : Nat) : Zq 1 (sgn i) := by
  induction i with
  | zero => exact ⟨1, rfl, by decide⟩
  | succ i ih =>
    obtain ⟨x, e, hx⟩ := ih
    refine ⟨-x, ?_, by omega⟩
    rw [Bq.sgn, e, Rat.intCast_neg]
theorem Zq.sum {b : Nat} {g : Nat → Rat} {n : Nat} (h : ∀ i, i < n → Zq b (g i)) : Zq (n * b) (Zt g n) := by
  induction n with
  | zero => exact Zq.zero _
  | succ n ih =>
    rw [Nat.succ_mul]
    exact (ih fun i hi => h i (by omega)).add (h n (by omega))
/-- Bounds of determinants from those of their columns. -/
theorem det_Zq {b0 F : Nat} {n : Nat} {M : Nat → Nat → Rat} (h0 : ∀ r, r < n + 1 → Zq b0 (M 0 r)) (hF : ∀ i, i < n + 1 → Zq F (det n (fun c r => M (c + 1) (skp i r)))) : Zq ((n + 1) * (b0 * F)) (det (n + 1) M) := by
  rw [det]
  refine Zq.sum fun i hi => ?_
  have := ((Zq.sgn i).mul (h0 i hi)).mul (hF i hi)
  rwa [Nat.one_mul] at this
/-- Of noughts and ones. -/
def fac01 : Nat → Nat
  | 0 => 1
  | 1 => 1
  | 2 => 1
  | n + 3 => (n + 3) * fac01 (n + 2)
def is01 (q : Rat) : Prop := q = 0 ∨ q = 1
theorem is01.zq {q : Rat} (h : is01 q) : Zq 1 q := by
  rcases h with rfl | rfl
  · exact ⟨0, rfl, by decide⟩
  · exact ⟨1, rfl, by decide⟩
theorem det_01 : ∀ (n : Nat) {M : Nat → Nat → Rat}, (∀ c r, c < n → r < n → is01 (M c r)) → Zq (fac01 n) (det n M)
  | 0, M, _ => ⟨1, rfl, by decide⟩
  | 1, M, h => by
    have : det 1 M = M 0 0 := by
      simp only [det, Zt, sgn]; grind
    rw [this]
    exact (h 0 0 (by omega) (by omega)).zq
  | 2, M, h => by
    have e : det 2 M = M 0 0 * M 1 1 - M 0 1 * M 1 0 := by
      simp only [det, Zt, sgn, skp]; simp only [show ¬ (0 < 0) by omega, show 0 < 1 by omega, if_true, if_false]; grind
    rw [e, fac01]
    rcases h 0 0 (by omega) (by omega) with h1 | h1 <;> rcases h 0 1 (by omega) (by omega) with h2 | h2 <;> rcases h 1 0 (by omega) (by omega) with h3 | h3 <;> rcases h 1 1 (by omega) (by omega) with h4 | h4 <;> rw [h1, h2, h3, h4]
    all_goals first
      | exact ⟨0, by decide +kernel, by decide⟩
      | exact ⟨1, by decide +kernel, by decide⟩
      | exact ⟨-1, by decide +kernel, by decide⟩
  | n + 3, M, h => by
    have := det_Zq (b0 := 1) (F := fac01 (n + 2)) (n := n + 2) (M := M) (fun r hr => (h 0 r (by omega) hr).zq) fun i hi => det_01 (n + 2) fun c r hc hr => h (c + 1) (skp i r) (by omega) (skp_lt hr)
    rw [Nat.one_mul] at this
    exact this
end Bq

namespace Bq

/-! Sums. -/
theorem sumTo_pick {n t : Nat} (g : Nat → Rat) (h : t < n) : Zt (fun c => if c = t then g c else 0) n = g t := by
  induction n with
  | zero => omega
  | succ n ih =>
    rw [Zt]
    by_cases h1 : t = n
    · subst h1
      rw [Wy fun i hi => by rw [if_neg (by omega)], if_pos rfl, Rat.zero_add]
    · rw [ih (by omega), if_neg (by omega), Rat.add_zero]
/-- A column that is others together. -/
theorem det_comb {n : Nat} (a : Nat → Nat → Rat) (s : Nat → Rat) (e : Nat → Rat) : ∀ (J : Nat) {M : Nat → Nat → Rat}, (∀ r, r < n + 1 → M 0 r = Zt (fun t => s t * a t r) J + e r) →
    (∀ t, t < J → s t = 0 ∨ det (n + 1) (fun c => if c = 0 then a t else M c) = 0) → det (n + 1) M = det (n + 1) (fun c => if c = 0 then e else M c)
  | 0, M, h, _ => Wu _ fun c r hc hr => by
    by_cases h0 : c = 0
    · subst h0; rw [if_pos rfl, h r hr, Zt, Rat.zero_add]
    · rw [if_neg h0]
  | J + 1, M, h, hz => by
    have h1 := det_lin (M := M) (fun r => Zt (fun t => s t * a t r) J + e r) (a J) (s J) fun r hr => by rw [h r hr, Zt]; grind
    have h2 : s J * det (n + 1) (fun c => if c = 0 then a J else M c) = 0 := by
      rcases hz J (by omega) with h3 | h3 <;> rw [h3] <;> grind
    rw [h2, Rat.add_zero] at h1
    rw [h1]
    have h4 : ∀ v : Nat → Rat, (fun c => if c = 0 then v else (fun c => if c = 0 then (fun r => Zt (fun t => s t * a t r) J + e r) else M c) c) = fun c => if c = 0 then v else M c := fun v => by
      funext c
      by_cases h0 : c = 0 <;> simp [h0]
    have ih := det_comb a s e J (M := fun c => if c = 0 then (fun r => Zt (fun t => s t * a t r) J + e r) else M c) (fun r hr => by simp) fun t ht => by
      rcases hz t (by omega) with h3 | h3
      · exact .inl h3
      · refine .inr ?_
        rw [h4]; exact h3
    rw [ih, h4]
theorem det_scale {n : Nat} (M : Nat → Nat → Rat) (a : Nat → Rat) (s : Rat) : det (n + 1) (fun c => if c = 0 then (fun r => s * a r) else M c) = s * det (n + 1) (fun c => if c = 0 then a else M c) := by
  have h := det_lin (n := n) (M := fun c => if c = 0 then (fun r => s * a r) else M c) (fun _ => 0) a s fun r hr => by simp [Rat.zero_add]
  have e1 : ∀ v : Nat → Rat, (fun c => if c = 0 then v else (fun c => if c = 0 then (fun r => s * a r) else M c) c) = fun c => if c = 0 then v else M c := fun v => by
    funext c
    by_cases h0 : c = 0 <;> simp [h0]
  rw [e1, e1] at h
  rw [h, det_zero (fun r hr => rfl), Rat.zero_add]

/-- What holds behind j steps: the rows stand as at first, but in another order. -/
structure GI (m : Nat) (T0 : Xv) (j : Nat) (S : Xv) (π : Nat → Nat) : Prop where
  lt : ∀ i, i < m → π i < m
  jm : j ≤ m
  row : ∀ i c, i < m → T0 (π i) c = Zt (fun t => T0 (π i) t * S t c) j + (if j ≤ i then S i c else 0)
  unit : ∀ i t, i < m → t < j → S i t = if i = t then 1 else 0
  dt : det j (fun c r => T0 (π r) c) ≠ 0
theorem GI.init (m : Nat) (T0 : Xv) : GI m T0 0 T0 id where
  lt i hi := hi
  jm := Nat.zero_le _
  row i c hi := by rw [Zt, if_pos (Nat.zero_le _), Rat.zero_add]; rfl
  unit i t hi ht := by omega
  dt := by rw [det]; decide
section
variable {m j : Nat} {T0 S : Xv} {π : Nat → Nat} (g : GI m T0 j S π)
include g
/-- A number below is a minor through the one before. -/
theorem GI.minor {i c : Nat} (hi : i < m) (hj : j ≤ i) : det (j + 1) (fun c' r => T0 (if r < j then π r else π i) (if c' = 0 then c else c' - 1)) = sgn j * S i c * det j (fun c r => T0 (π r) c) := by
  have h := det_comb (n := j) (fun t r => T0 (if r < j then π r else π i) t) (fun t => S t c) (fun r => if r < j then 0 else S i c) j (M := fun c' r => T0 (if r < j then π r else π i) (if c' = 0 then c else c' - 1)) (fun r hr => by
    simp only [if_true]
    by_cases h1 : r < j
    · simp only [h1, if_true]
      rw [g.row r c (by have := g.jm; omega), if_neg (by omega)]
      congr 1
      exact Zj fun t ht => Rat.mul_comm _ _
    · simp only [h1, if_false]
      rw [g.row i c hi, if_pos hj]
      congr 1
      exact Zj fun t ht => Rat.mul_comm _ _) fun t ht => .inr (by
    refine det_same _ t _ (by omega) fun r hr => ?_
    simp)
  rw [h, det_last (fun r hr => by simp only [if_true, hr])]
  simp only [if_true, Nat.lt_irrefl, if_false]
  congr 1
  refine Wu _ fun c' r hc hr => ?_
  simp [hr]
/-- A number of a pivot's row, the same. -/
theorem GI.cramer {t c : Nat} (ht : t < j) : det j (fun c' r => T0 (π r) (if c' = 0 then c else bring t c')) = S t c * (sgn t * det j (fun c r => T0 (π r) c)) := by
  have hb := det_bring t j (fun c r => T0 (π r) c) ht
  obtain ⟨n, rfl⟩ : ∃ n, j = n + 1 := ⟨j - 1, by omega⟩
  have hbr : ∀ s, s < n + 1 → s ≠ t → ∃ c', c' + 1 < n + 1 ∧ bring t (c' + 1) = s := fun s hs hst => by
    by_cases h1 : s < t
    · exact ⟨s, by omega, by simp [bring, show s + 1 ≤ t by omega]⟩
    · exact ⟨s - 1, by omega, by simp only [bring]; rw [if_neg (by omega), if_neg (by omega)]; omega⟩
  have h := det_comb (n := n) (fun s r => T0 (π r) s) (fun s => if s = t then 0 else S s c) (fun r => S t c * T0 (π r) t) (n + 1) (M := fun c' r => T0 (π r) (if c' = 0 then c else bring t c')) (fun r hr => by
    simp only [if_true]
    rw [g.row r c (by have := g.jm; omega), if_neg (by omega), Rat.add_zero]
    have e : Zt (fun s => T0 (π r) s * S s c) (n + 1) = Zt (fun s => (if s = t then 0 else S s c) * T0 (π r) s) (n + 1) + Zt (fun s => if s = t then S s c * T0 (π r) s else 0) (n + 1) := by
      rw [← Wc]
      refine Zj fun s hs => ?_
      by_cases h1 : s = t
      · simp only [h1, if_true]; grind
      · simp only [h1, if_false]; grind
    rw [e, sumTo_pick _ ht]) fun s hs => by
    by_cases h1 : s = t
    · exact .inl (by simp [h1])
    · refine .inr ?_
      obtain ⟨c', h2, h3⟩ := hbr s hs h1
      refine det_same _ c' _ h2 fun r hr => ?_
      simp [h3]
  rw [h, det_scale]
  congr 1
end
theorem swapT_at (a p : Nat) (T : Xv) : Vd a p T a = T p := by simp [Vd]
theorem GI.step {m j p : Nat} {T0 S : Xv} {π : Nat → Nat} (g : GI m T0 j S π) (hp : p < m) (hjp : j ≤ p) (h0 : S p j ≠ 0) :
    ∃ π', GI m T0 (j + 1) (elimT j (normT j (Vd j p S))) π' := by
  have hj : j < m := by omega
  -- the rows changed
  obtain ⟨π', hπ⟩ : ∃ π' : Nat → Nat, π' = fun i => if i = j then π p else if i = p then π j else π i := ⟨_, rfl⟩
  obtain ⟨S', hS⟩ : ∃ S', S' = Vd j p S := ⟨_, rfl⟩
  have hS1 : S' j = S p := by rw [hS, swapT_at]
  have hS2 : ∀ t, t < j → S' t = S t := fun t ht => by rw [hS, Vd]; simp only [show t ≠ j by omega, show t ≠ p by omega, if_false]
  have hπ2 : ∀ t, t < j → π' t = π t := fun t ht => by rw [hπ]; simp only [show t ≠ j by omega, show t ≠ p by omega, if_false]
  have hsel : ∀ i, i < m → ∃ i', i' < m ∧ π' i = π i' ∧ S' i = S i' ∧ (j ≤ i ↔ j ≤ i') ∧ (i < j → i' = i) := fun i hi => by
    by_cases h1 : i = j
    · exact ⟨p, hp, by rw [hπ]; simp [h1], by rw [h1, hS1], by omega, by omega⟩
    · by_cases h2 : i = p
      · refine ⟨j, hj, by rw [hπ]; simp only [h2, if_true]; rw [if_neg (by omega)], ?_, by omega, by omega⟩
        rw [hS, Vd]; simp only [h1, if_false]; rw [if_pos h2]
      · refine ⟨i, hi, by rw [hπ]; simp [h1, h2], ?_, Iff.rfl, fun _ => rfl⟩
        rw [hS, Vd]; simp [h1, h2]
  have g' : GI m T0 j S' π' := by
    refine ⟨fun i hi => ?_, g.jm, fun i c hi => ?_, fun i t hi ht => ?_, ?_⟩
    · obtain ⟨i', h1, h2, -⟩ := hsel i hi
      rw [h2]; exact g.lt i' h1
    · obtain ⟨i', h1, h2, h3, h4, -⟩ := hsel i hi
      rw [h2, h3, g.row i' c h1]
      congr 1
      · exact Zj fun t ht => by rw [hS2 t ht]
      · by_cases h5 : j ≤ i
        · rw [if_pos h5, if_pos (h4.1 h5)]
        · rw [if_neg h5, if_neg fun h => h5 (h4.2 h)]
    · obtain ⟨i', h1, h2, h3, h4, h5⟩ := hsel i hi
      rw [h3, g.unit i' t h1 ht]
      by_cases h6 : i < j
      · rw [h5 h6]
      · have := h4.1 (by omega)
        rw [if_neg (by omega), if_neg (by omega)]
    · have : det j (fun c r => T0 (π' r) c) = det j (fun c r => T0 (π r) c) := Wu _ fun c r hc hr => by rw [hπ2 r hr]
      rw [this]; exact g.dt
  have hv : S' j j ≠ 0 := by rw [hS1]; exact h0
  rw [← hS]
  clear hsel hπ2 hS2 hS1 hS hπ g h0
  refine ⟨π', g'.lt, by omega, fun i c hi => ?_, fun i t hi ht => ?_, ?_⟩
  · -- rows
    have r1 := g'.row i c hi
    have r2 := g'.row i j hi
    obtain ⟨v, hvv⟩ : ∃ v, S' j j = v := ⟨_, rfl⟩
    rw [hvv] at hv
    obtain ⟨q, hq⟩ : ∃ q, S' j c / v = q := ⟨_, rfl⟩
    have hqv : S' j c = q * v := by rw [← hq]; exact (Rat.div_mul_cancel hv).symm
    have e1 : ∀ i', elimT j (normT j S') i' c = if i' = j then q else S' i' c - S' i' j * q := fun i' => by
      simp only [elimT, normT, if_true, hvv, hq]
      by_cases h1 : i' = j
      · simp only [h1, if_true]
      · simp only [h1, if_false]
    rw [Zt]
    have e2 : Zt (fun t => T0 (π' i) t * elimT j (normT j S') t c) j = Zt (fun t => T0 (π' i) t * S' t c) j + (-q) * Zt (fun t => T0 (π' i) t * S' t j) j := by
      rw [← Xb, ← Wc]
      refine Zj fun t ht => ?_
      rw [e1, if_neg (by omega)]; grind
    rw [e2, e1 j, if_pos rfl, e1 i]
    generalize Zt (fun t => T0 (π' i) t * S' t c) j = A at *
    generalize Zt (fun t => T0 (π' i) t * S' t j) j = B at *
    rcases Nat.lt_trichotomy i j with h1 | h1 | h1
    · rw [if_neg (by omega)] at r1 r2
      rw [if_neg (by omega)]
      rw [r1, r2]; grind
    · subst h1
      rw [if_pos (Nat.le_refl _)] at r1 r2
      rw [if_neg (by omega)]
      rw [hvv] at r2
      rw [r1, r2, hqv]; grind
    · rw [if_pos (by omega)] at r1 r2
      rw [if_pos (by omega), if_neg (by omega)]
      rw [r1, r2]; grind
  · -- unit
    simp only [elimT, normT, if_true]
    by_cases h1 : t = j
    · subst h1
      by_cases h2 : i = t
      · subst h2
        rw [if_pos rfl, if_pos rfl, Rat.div_def, Rat.mul_inv_cancel _ hv]
      · rw [if_neg h2, if_neg h2, if_neg h2, Rat.div_def, Rat.mul_inv_cancel _ hv]; grind
    · have u1 := g'.unit j t hj (by omega)
      rw [if_neg (by omega)] at u1
      have u2 := g'.unit i t hi (by omega)
      by_cases h2 : i = j
      · subst h2
        rw [if_pos rfl, u1, if_neg (by omega), Rat.div_def, Rat.zero_mul]
      · rw [if_neg h2, if_neg h2, if_neg h2, u1, u2, Rat.div_def, Rat.zero_mul, Rat.mul_zero]; grind
  · -- the determinant
    have hm := g'.minor (i := j) (c := j) hj (Nat.le_refl _)
    have hb := det_bring j (j + 1) (fun c r => T0 (π' r) c) (by omega)
    have e : det (j + 1) (fun c' r => T0 (if r < j then π' r else π' j) (if c' = 0 then j else c' - 1)) = det (j + 1) (fun c r => T0 (π' r) (bring j c)) := Wu _ fun c r hc hr => by
      have h1 : (if r < j then π' r else π' j) = π' r := by
        by_cases h2 : r < j
        · rw [if_pos h2]
        · rw [if_neg h2, show r = j by omega]
      have h3 : (if c = 0 then j else c - 1) = bring j c := by
        simp only [bring]
        by_cases h0 : c = 0
        · rw [if_pos h0, if_pos h0]
        · rw [if_neg h0, if_neg h0, if_pos (by omega)]
      rw [h1, h3]
    rw [e, hb] at hm
    intro hc
    rw [hc, Rat.mul_zero] at hm
    rcases Rat.mul_eq_zero.1 hm.symm with h1 | h1
    · rcases Rat.mul_eq_zero.1 h1 with h2 | h2
      · have := sgn_sq j; rw [h2] at this; exact absurd this (by decide +kernel)
      · exact hv h2
    · exact g'.dt h1
theorem elim_gi {m : Nat} {T0 : Xv} : ∀ {j : Nat} {S : Xv}, Xk m T0 j = some S → ∃ π, GI m T0 j S π
  | 0, S, h => by cases h; exact ⟨id, GI.init m _⟩
  | j + 1, S, h => by
    rw [Xk] at h
    cases hr : Xk m T0 j with
    | none => rw [hr] at h; cases h
    | some S1 =>
      rw [hr] at h
      simp only [Option.bind_some, Wp] at h
      obtain ⟨π, g⟩ := elim_gi hr
      cases hf : findP m j S1 with
      | none => rw [hf] at h; cases h
      | some p =>
        rw [hf] at h
        cases h
        obtain ⟨h1, h2, h3, _⟩ := findP_some hf
        exact g.step h1 h2 h3

/-! How great. -/
theorem Zq.rp {b : Nat} {D z : Int} {q : Rat} {s : Rat} (hD : D ≠ 0) {N : Nat} (hN : 0 < N) (hs : Zq 1 s) (hq : Zq b (q * D * N * s)) (hss : s * s = 1) : ∃ x : Int, Rp (D.natAbs * N) x q ∧ x.natAbs ≤ b := by
  obtain ⟨y, hy, hyb⟩ := hq
  obtain ⟨u, hu, hub⟩ := hs
  have hD0 : 0 < D.natAbs := by omega
  have h1 : q * (D : Rat) * (N : Rat) = (y : Rat) * s := by
    rw [← hy]
    generalize q * (D : Rat) * (N : Rat) = A
    have : A * s * s = A * (s * s) := by grind
    rw [this, hss, Rat.mul_one]
  rcases Int.lt_or_le D 0 with h | h
  · refine ⟨-(y * u), ⟨Nat.mul_pos hD0 hN, ?_⟩, ?_⟩
    · have e : ((D.natAbs : Nat) : Rat) = -(D : Rat) := by
        rw [← Rat.intCast_natCast, ← Rat.intCast_neg]; congr 1; omega
      rw [Rat.natCast_mul, e, Rat.intCast_neg, Rat.intCast_mul, ← hu, ← h1]; grind
    · rw [Int.natAbs_neg, Int.natAbs_mul]
      exact Nat.le_trans (Nat.mul_le_mul hyb hub) (by omega)
  · refine ⟨y * u, ⟨Nat.mul_pos hD0 hN, ?_⟩, ?_⟩
    · have e : ((D.natAbs : Nat) : Rat) = (D : Rat) := by
        rw [← Rat.intCast_natCast]; congr 1; omega
      rw [Rat.natCast_mul, e, Rat.intCast_mul, ← hu, ← h1]; grind
    · rw [Int.natAbs_mul]
      exact Nat.le_trans (Nat.mul_le_mul hyb hub) (by omega)
/-- The parts of a state. -/
theorem GI.parts {P : Rat → Prop} {F : Nat → Nat} (hF : ∀ n M, (∀ c r, c < n → r < n → P (M c r)) → Zq (F n) (det n M)) {m k j N B X : Nat} {T0 S : Xv} {π : Nat → Nat} (g : GI m T0 j S π) (hjk : j ≤ k) (hN : 0 < N)
    (hP : ∀ i c, i < m → c < k → P (T0 i c)) (hR : ∀ i, i < m → Zq B (T0 i k * N)) (hX1 : ∀ n, n ≤ k → F n * N ≤ X) (hX2 : ∀ n, n ≤ k → (n + 1) * (B * F n) ≤ X) :
    ∃ D, 0 < D ∧ D ≤ F j * N ∧ ∀ i c, i < m → c ≤ k → ∃ x : Int, Rp D x (S i c) ∧ x.natAbs ≤ X := by
  have hj := g.jm
  obtain ⟨d, hd, hdb⟩ := hF j (fun c r => T0 (π r) c) fun c r hc hr => hP _ _ (g.lt r (by omega)) (by omega)
  have hd0 : d ≠ 0 := fun h => g.dt (by rw [hd, h]; rfl)
  refine ⟨d.natAbs * N, Nat.mul_pos (by omega) hN, Nat.mul_le_mul_right _ hdb, fun i c hi hc => ?_⟩
  by_cases hcj : c < j
  · -- a column that is done
    rw [g.unit i c hi hcj]
    have hX := hX1 j hjk
    have hdX : d.natAbs * N ≤ X := Nat.le_trans (Nat.mul_le_mul_right _ hdb) hX
    by_cases h1 : i = c
    · refine ⟨((d.natAbs * N : Nat) : Int), ⟨Nat.mul_pos (by omega) hN, ?_⟩, by rw [Int.natAbs_natCast]; exact hdX⟩
      rw [if_pos h1, Rat.one_mul, Rat.intCast_natCast]
    · refine ⟨0, ⟨Nat.mul_pos (by omega) hN, ?_⟩, by simp⟩
      rw [if_neg h1, Rat.zero_mul]; rfl
  by_cases hij : i < j
  · -- a pivot's row
    have hcr := g.cramer (c := c) hij
    rw [hd] at hcr
    obtain ⟨n, rfl⟩ : ∃ n, j = n + 1 := ⟨j - 1, by omega⟩
    have hbl : ∀ c', c' + 1 < n + 1 → bring i (c' + 1) < n + 1 := fun c' hc' => by
      simp only [bring]; split
      · omega
      · split <;> omega
    have key : Zq X (S i c * (d : Rat) * (N : Rat) * sgn i) := by
      have e : S i c * (d : Rat) * (N : Rat) * sgn i = (N : Rat) * det (n + 1) (fun c' r => T0 (π r) (if c' = 0 then c else bring i c')) := by rw [hcr]; grind
      rw [e]
      by_cases hck : c = k
      · subst hck
        have e2 : (N : Rat) * det (n + 1) (fun c' r => T0 (π r) (if c' = 0 then c else bring i c')) = det (n + 1) (fun c' => if c' = 0 then (fun r => (N : Rat) * T0 (π r) c) else fun r => T0 (π r) (bring i c')) := by
          rw [det_scale (fun c' r => T0 (π r) (bring i c')) (fun r => T0 (π r) c) (N : Rat)]
          congr 1
        rw [e2]
        refine (det_Zq (b0 := B) (F := F n) (fun r hr => ?_) fun i' hi' => hF n _ fun c' r hc' hr => ?_).mono (hX2 n (by omega))
        · simp only [if_true]; rw [Rat.mul_comm]; exact hR _ (g.lt r (by omega))
        · simp only [show ¬ (c' + 1 = 0) by omega, if_false]
          exact hP _ _ (g.lt _ (by have := skp_lt (i := i') hr; omega)) (by have := hbl c' (by omega); omega)
      · refine Zq.mono (Zq.mul ⟨(N : Int), (Rat.intCast_natCast N).symm, Nat.le_refl _⟩ (hF (n + 1) _ fun c' r hc' hr => ?_)) (by rw [Int.natAbs_natCast, Nat.mul_comm]; exact hX1 (n + 1) hjk)
        refine hP _ _ (g.lt r (by omega)) ?_
        by_cases h0 : c' = 0
        · rw [if_pos h0]; omega
        · rw [if_neg h0]
          obtain ⟨c', rfl⟩ : ∃ t, c' = t + 1 := ⟨c' - 1, by omega⟩
          have := hbl c' hc'; omega
    exact Zq.rp (z := 0) hd0 hN (Zq.sgn i) key (sgn_sq i)
  · -- a row below
    have hmn := g.minor (c := c) hi (by omega)
    rw [hd] at hmn
    have key : Zq X (S i c * (d : Rat) * (N : Rat) * sgn j) := by
      have e : S i c * (d : Rat) * (N : Rat) * sgn j = (N : Rat) * det (j + 1) (fun c' r => T0 (if r < j then π r else π i) (if c' = 0 then c else c' - 1)) := by rw [hmn]; grind
      rw [e]
      have hρ : ∀ r, (if r < j then π r else π i) < m := fun r => by
        split
        · exact g.lt r (by omega)
        · exact g.lt i hi
      by_cases hck : c = k
      · subst hck
        have e2 : (N : Rat) * det (j + 1) (fun c' r => T0 (if r < j then π r else π i) (if c' = 0 then c else c' - 1)) = det (j + 1) (fun c' => if c' = 0 then (fun r => (N : Rat) * T0 (if r < j then π r else π i) c) else fun r => T0 (if r < j then π r else π i) (c' - 1)) := by
          rw [det_scale (fun c' r => T0 (if r < j then π r else π i) (c' - 1)) (fun r => T0 (if r < j then π r else π i) c) (N : Rat)]
          congr 1
        rw [e2]
        refine (det_Zq (b0 := B) (F := F j) (fun r hr => ?_) fun i' hi' => hF j _ fun c' r hc' hr => ?_).mono (hX2 j hjk)
        · simp only [if_true]; rw [Rat.mul_comm]; exact hR _ (hρ r)
        · simp only [show ¬ (c' + 1 = 0) by omega, if_false]
          exact hP _ _ (hρ _) (by omega)
      · refine Zq.mono (Zq.mul ⟨(N : Int), (Rat.intCast_natCast N).symm, Nat.le_refl _⟩ (hF (j + 1) _ fun c' r hc' hr => ?_)) (by rw [Int.natAbs_natCast, Nat.mul_comm]; exact hX1 (j + 1) (by omega))
        refine hP _ _ (hρ r) ?_
        by_cases h0 : c' = 0
        · rw [if_pos h0]; omega
        · rw [if_neg h0]; omega
    exact Zq.rp (z := 0) hd0 hN (Zq.sgn j) key (sgn_sq j)
end Bq

namespace Bq

/-- Rows that come to nothing. -/
def Nul (m K : Nat) (T : Xv) (y : Nat → Rat) : Prop := ∀ i, i < m → Zt (fun c => T i c * y c) K = 0
theorem nul_swap {m K a p : Nat} {T : Xv} {y : Nat → Rat} (ha : a < m) (hp : p < m) : Nul m K (Vd a p T) y ↔ Nul m K T y := by
  have key : ∀ T : Xv, Nul m K T y → Nul m K (Vd a p T) y := fun T h i hi => by
    by_cases h1 : i = a
    · subst h1; rw [swapT_at]; exact h p hp
    · by_cases h2 : i = p
      · have : Vd a p T i = T a := by simp only [Vd, h1, if_false]; rw [if_pos h2]
        rw [this]; exact h a ha
      · have : Vd a p T i = T i := by simp only [Vd, h1, h2, if_false]
        rw [this]; exact h i hi
  refine ⟨fun h => ?_, key T⟩
  have h2 := key _ h
  have e : Vd a p (Vd a p T) = T := by
    funext i
    simp only [Vd]
    by_cases h1 : i = a
    · subst h1
      simp only [if_true]
      by_cases h3 : p = i
      · rw [if_pos h3, h3]
      · rw [if_neg h3]
    · simp only [h1, if_false]
      by_cases h3 : i = p
      · subst h3; simp
      · simp [h3]
  rwa [e] at h2
theorem nul_norm {m K a : Nat} {T : Xv} {y : Nat → Rat} (ha : a < m) (h0 : T a a ≠ 0) : Nul m K (normT a T) y ↔ Nul m K T y := by
  have e : Zt (fun c => normT a T a c * y c) K = (T a a)⁻¹ * Zt (fun c => T a c * y c) K := by
    rw [← Xb]
    refine Zj fun c hc => ?_
    simp only [normT, if_true, Rat.div_def]; grind
  have e2 : ∀ i, i ≠ a → Zt (fun c => normT a T i c * y c) K = Zt (fun c => T i c * y c) K := fun i hi => Zj fun c hc => by simp only [normT, hi, if_false]
  constructor
  · intro h i hi
    by_cases h1 : i = a
    · subst h1
      have := h i hi
      rw [e] at this
      rcases Rat.mul_eq_zero.1 this with h2 | h2
      · have h3 := Rat.mul_inv_cancel _ h0
        rw [h2, Rat.mul_zero] at h3; exact absurd h3 (by decide +kernel)
      · exact h2
    · rw [← e2 i h1]; exact h i hi
  · intro h i hi
    by_cases h1 : i = a
    · subst h1; rw [e, h i hi, Rat.mul_zero]
    · rw [e2 i h1]; exact h i hi
theorem nul_elim {m K a : Nat} {T : Xv} {y : Nat → Rat} (ha : a < m) : Nul m K (elimT a T) y ↔ Nul m K T y := by
  have e : ∀ i, i ≠ a → Zt (fun c => elimT a T i c * y c) K = Zt (fun c => T i c * y c) K + (-(T i a)) * Zt (fun c => T a c * y c) K := fun i hi => by
    rw [← Xb, ← Wc]
    refine Zj fun c hc => ?_
    simp only [elimT, hi, if_false]; grind
  have e2 : Zt (fun c => elimT a T a c * y c) K = Zt (fun c => T a c * y c) K := Zj fun c hc => by simp only [elimT, if_true]
  constructor
  · intro h i hi
    have h2 := h a ha
    rw [e2] at h2
    by_cases h1 : i = a
    · subst h1; exact h2
    · have := h i hi
      rw [e i h1, h2, Rat.mul_zero, Rat.add_zero] at this; exact this
  · intro h i hi
    by_cases h1 : i = a
    · subst h1; rw [e2]; exact h i hi
    · rw [e i h1, h i hi, h a ha, Rat.mul_zero, Rat.add_zero]
theorem nul_run {m K : Nat} {T : Xv} {y : Nat → Rat} : ∀ {j : Nat} {S : Xv}, Xk m T j = some S → (Nul m K S y ↔ Nul m K T y)
  | 0, S, h => by cases h; exact Iff.rfl
  | j + 1, S, h => by
    rw [Xk] at h
    cases hr : Xk m T j with
    | none => rw [hr] at h; cases h
    | some S1 =>
      rw [hr] at h
      simp only [Option.bind_some, Wp] at h
      cases hf : findP m j S1 with
      | none => rw [hf] at h; cases h
      | some p =>
        rw [hf] at h
        cases h
        obtain ⟨h1, h2, h3, _⟩ := findP_some hf
        have hj : j < m := by omega
        rw [nul_elim hj, nul_norm hj (by rw [swapT_at]; exact h3), nul_swap hj h1]
        exact nul_run hr

/-- A solution; what may be added to one. -/
def Sol (m k : Nat) (T : Xv) (x : Nat → Rat) : Prop := ∀ i, i < m → Zt (fun c => T i c * x c) k = T i k
def Ker (m k : Nat) (T : Xv) (x : Nat → Rat) : Prop := ∀ i, i < m → Zt (fun c => T i c * x c) k = 0
def ext1 (k : Nat) (x : Nat → Rat) (s : Rat) : Nat → Rat := fun c => if c < k then x c else s
theorem sum_ext1 (T : Xv) (i k : Nat) (x : Nat → Rat) (s : Rat) : Zt (fun c => T i c * ext1 k x s c) (k + 1) = Zt (fun c => T i c * x c) k + T i k * s := by
  rw [Zt]
  have e : ext1 k x s k = s := by simp [ext1]
  simp only [e]
  congr 1
  exact Zj fun c hc => by simp only [ext1, hc, if_true]
theorem sol_nul {m k : Nat} {T : Xv} {x : Nat → Rat} : Sol m k T x ↔ Nul m (k + 1) T (ext1 k x (-1)) := by
  constructor
  · intro h i hi
    rw [sum_ext1, h i hi]; grind
  · intro h i hi
    have := h i hi
    rw [sum_ext1] at this
    generalize Zt (fun c => T i c * x c) k = A at *
    grind
theorem ker_nul {m k : Nat} {T : Xv} {x : Nat → Rat} : Ker m k T x ↔ Nul m (k + 1) T (ext1 k x 0) := by
  constructor
  · intro h i hi
    rw [sum_ext1, h i hi]; grind
  · intro h i hi
    have := h i hi
    rw [sum_ext1] at this
    generalize Zt (fun c => T i c * x c) k = A at *
    grind
theorem sum_unit {n t : Nat} (x : Nat → Rat) (h : t < n) : Zt (fun c => (if t = c then 1 else 0) * x c) n = x t := by
  rw [← sumTo_pick x h]
  refine Zj fun c hc => ?_
  by_cases h1 : t = c
  · rw [if_pos h1, if_pos h1.symm, Rat.one_mul]
  · rw [if_neg h1, if_neg (Ne.symm h1), Rat.zero_mul]
/-- **What solving tells.** -/
theorem solve_some {m k : Nat} {T : Xv} {xs : List Rat} (h : Wz m k T = some xs) : xs.length = k ∧ ∀ y, Sol m k T y ↔ ∀ t, t < k → y t = xs.getD t 0 := by
  refine ⟨solveT_len h, fun y => ?_⟩
  rw [Wz] at h
  cases hr : Xk m T k with
  | none => rw [hr] at h; cases h
  | some S =>
    rw [hr] at h
    simp only [Option.bind_some] at h
    split at h
    · cases h
    · next hrest =>
      cases h
      obtain ⟨π, g⟩ := elim_gi hr
      rw [sol_nul, ← nul_run hr, ← sol_nul]
      have hu : ∀ i, i < m → Zt (fun c => S i c * y c) k = if i < k then y i else 0 := fun i hi => by
        rw [Zj (g := fun c => (if i = c then 1 else 0) * y c) fun c hc => by rw [g.unit i c hi hc]]
        by_cases h1 : i < k
        · rw [if_pos h1, sum_unit y h1]
        · rw [if_neg h1]
          exact Wy fun c hc => by rw [if_neg (by omega), Rat.zero_mul]
      have hget : ∀ t, t < k → ((List.range k).map fun i => S i k).getD t 0 = S t k := fun t ht => by simp [List.getD, ht]
      constructor
      · intro h t ht
        rw [hget t ht]
        have := h t (by have := g.jm; omega)
        rw [hu t (by have := g.jm; omega), if_pos ht] at this
        exact this
      · intro h i hi
        rw [hu i hi]
        by_cases h1 : i < k
        · rw [if_pos h1, h i h1, hget i h1]
        · rw [if_neg h1]
          have : ¬ restT m k S = true := hrest
          rw [restT, List.any_eq_true] at this
          rcases Decidable.em (S i k = 0) with h2 | h2
          · exact h2.symm
          · exact absurd ⟨i, List.mem_range.2 hi, by simp [h2]; omega⟩ this
/-- None that stands alone. -/
theorem run_none {m k : Nat} {T : Xv} : ∀ {j : Nat}, j ≤ k → Xk m T j = none → ∃ δ, Ker m k T δ ∧ ∃ c, c < k ∧ δ c ≠ 0
  | 0, _, h => by cases h
  | j + 1, hj, h => by
    rw [Xk] at h
    cases hr : Xk m T j with
    | none => exact run_none (by omega) hr
    | some S =>
      rw [hr] at h
      simp only [Option.bind_some, Wp] at h
      cases hf : findP m j S with
      | some p => rw [hf] at h; cases h
      | none =>
        obtain ⟨π, g⟩ := elim_gi hr
        have h0 : ∀ i, i < m → j ≤ i → S i j = 0 := fun i hi hji => by
          rw [findP, List.find?_eq_none] at hf
          have := hf i (List.mem_range.2 hi)
          simpa [hji] using this
        refine ⟨fun c => if c < j then - S c j else if c = j then 1 else 0, ?_, j, by omega, by simp⟩
        rw [ker_nul, ← nul_run hr, ← ker_nul]
        intro i hi
        have e : ∀ K, K ≤ k → Zt (fun c => S i c * (if c < j then - S c j else if c = j then 1 else 0)) K = if j < K then Zt (fun c => S i c * (- S c j)) j + S i j else Zt (fun c => S i c * (- S c j)) K := by
          intro K
          induction K with
          | zero => intro _; rw [if_neg (by omega)]; rfl
          | succ K ih =>
            intro hK
            rw [Zt, ih (by omega)]
            rcases Nat.lt_trichotomy K j with h1 | h1 | h1
            · rw [if_neg (show ¬ j < K by omega), if_pos h1, if_neg (show ¬ j < K + 1 by omega)]; rfl
            · subst h1
              rw [if_neg (show ¬ K < K by omega), if_pos (show K < K + 1 by omega), if_neg (show ¬ K < K by omega), if_pos rfl, Rat.mul_one]
            · rw [if_pos (show j < K by omega), if_pos (show j < K + 1 by omega), if_neg (show ¬ K < j by omega), if_neg (show ¬ K = j by omega), Rat.mul_zero, Rat.add_zero]
        rw [e k (Nat.le_refl _), if_pos (by omega)]
        rw [Zj (g := fun c => (if i = c then 1 else 0) * (- S c j)) fun c hc => by rw [g.unit i c hi hc]]
        by_cases h1 : i < j
        · rw [sum_unit (fun c => - S c j) h1]; grind
        · rw [Wy fun c hc => by rw [if_neg (by omega), Rat.zero_mul], h0 i hi (by omega), Rat.zero_add]
theorem solve_none {m k : Nat} {T : Xv} (h : Wz m k T = none) : (∀ y, ¬ Sol m k T y) ∨ ∃ δ, Ker m k T δ ∧ ∃ c, c < k ∧ δ c ≠ 0 := by
  rw [Wz] at h
  cases hr : Xk m T k with
  | none => exact .inr (run_none (Nat.le_refl _) hr)
  | some S =>
    rw [hr] at h
    simp only [Option.bind_some] at h
    split at h
    · next hrest =>
      refine .inl fun y hy => ?_
      obtain ⟨π, g⟩ := elim_gi hr
      rw [sol_nul, ← nul_run hr, ← sol_nul] at hy
      rw [restT, List.any_eq_true] at hrest
      obtain ⟨i, hi, h1⟩ := hrest
      simp only [Bool.and_eq_true, decide_eq_true_eq] at h1
      have := hy i (List.mem_range.1 hi)
      rw [Wy fun c hc => by rw [g.unit i c (List.mem_range.1 hi) hc, if_neg (by omega), Rat.zero_mul]] at this
      exact h1.2 this.symm
    · cases h
theorem Sol.add {m k : Nat} {T : Xv} {x δ : Nat → Rat} (h : Sol m k T x) (hd : Ker m k T δ) (s : Rat) : Sol m k T (fun c => x c + s * δ c) := fun i hi => by
  rw [Zj (g := fun c => T i c * x c + s * (T i c * δ c)) fun c hc => by grind, Wc, Xb, h i hi, hd i hi, Rat.mul_zero, Rat.add_zero]
end Bq

namespace Bq

theorem bitQ_01 (e w : Nat) : is01 (bitQ e w) := by rw [bitQ]; split; exact .inr rfl; exact .inl rfl
theorem bitQ_all {n w : Nat} (h : w < n) : bitQ (2 ^ n - 1) w = 1 := by rw [bitQ, Nat.testBit_two_pow_sub_one]; simp [h]
theorem Wn {set w k : Nat} (hw : w < k) (hb : set.testBit w = true) : (Yd set w).length < (Yd set k).length := by
  induction k with
  | zero => omega
  | succ k ih =>
    rw [Wf, List.length_append]
    by_cases h1 : w = k
    · subst h1; rw [hb]; simp
    · have := ih (by omega)
      omega
theorem worldsTo_get {set w k : Nat} (hw : w < k) (hb : set.testBit w = true) : (Yd set k).getD (Yd set w).length 0 = w := by
  induction k with
  | zero => omega
  | succ k ih =>
    rw [Wf, List.getD]
    by_cases h1 : w = k
    · subst h1; rw [hb, List.getElem?_append_right (Nat.le_refl _)]; simp
    · have := Wn (show w < k by omega) hb
      rw [List.getElem?_append_left this]
      exact ih (by omega)
theorem worldsTo_idx {set k : Nat} : ∀ {c : Nat}, c < (Yd set k).length → (Yd set ((Yd set k).getD c 0)).length = c ∧ (Yd set k).getD c 0 < k ∧ set.testBit ((Yd set k).getD c 0) = true := by
  induction k with
  | zero => intro c h; simp [Yd] at h
  | succ k ih =>
    intro c h
    rw [Wf] at h ⊢
    rw [List.getD]
    by_cases h1 : c < (Yd set k).length
    · rw [List.getElem?_append_left h1]
      obtain ⟨a, b, d⟩ := ih h1
      rw [List.getD] at a b d
      exact ⟨a, by omega, d⟩
    · rw [List.length_append] at h
      cases hb : set.testBit k with
      | false => rw [hb] at h; simp at h; omega
      | true =>
        rw [hb] at h
        simp at h
        obtain rfl : c = (Yd set k).length := by omega
        rw [List.getElem?_append_right (Nat.le_refl _)]
        simp [hb]
/-- Numbers of some worlds, of all: nought elsewhere. -/
def spr (set : Nat) (x : Nat → Rat) (w : Nat) : Rat := if set.testBit w then x (Yd set w).length else 0
theorem ws_sum (set : Nat) (g : Nat → Nat → Rat) : ∀ k, Zt (fun c => g c ((Yd set k).getD c 0)) (Yd set k).length = Zt (fun w => if set.testBit w then g (Yd set w).length w else 0) k
  | 0 => rfl
  | k + 1 => by
    have ih := ws_sum set g k
    rw [Zt, ← ih]
    cases hb : set.testBit k with
    | false =>
      have e : Yd set (k + 1) = Yd set k := by rw [Wf, hb]; simp
      rw [e, if_neg (by simp), Rat.add_zero]
    | true =>
      have e : (Yd set (k + 1)).length = (Yd set k).length + 1 := by rw [Wf, hb]; simp
      rw [e, Zt, if_pos rfl, worldsTo_get (Nat.lt_succ_self k) hb]
      congr 1
      refine Zj fun c hc => ?_
      rw [Wf, List.getD, List.getD, List.getElem?_append_left hc]
theorem spreadTo_get {n set : Nat} {x : List Rat} {w : Nat} (hw : w < n) : ∀ k, k ≤ (Yd set n).length → (Xt n (Yd set n) x k).getD w 0 = if set.testBit w = true ∧ (Yd set w).length < k then x.getD (Yd set w).length 0 else 0
  | 0, _ => by rw [Xt, if_neg (by omega)]; simp [List.getD, hw]
  | k + 1, hk => by
    have ih := spreadTo_get (set := set) (x := x) hw k (by omega)
    obtain ⟨a, b, d⟩ := worldsTo_idx (set := set) (k := n) (c := k) (by omega)
    rw [Xt, List.getD, List.getElem?_set]
    by_cases h1 : (Yd set n).getD k 0 = w
    · rw [if_pos h1, h1, Vi, if_pos hw]
      rw [h1] at a d
      rw [if_pos ⟨d, by omega⟩, a]; rfl
    · rw [if_neg h1]
      rw [List.getD] at ih
      rw [ih]
      by_cases h2 : set.testBit w = true ∧ (Yd set w).length < k
      · rw [if_pos h2, if_pos ⟨h2.1, by omega⟩]
      · rw [if_neg h2, if_neg]
        rintro ⟨h3, h4⟩
        have h5 : (Yd set w).length = k := by
          rcases Nat.lt_or_ge (Yd set w).length k with h | h
          · exact absurd ⟨h3, h⟩ h2
          · omega
        have := worldsTo_get hw h3
        rw [h5] at this
        exact h1 this
theorem spread_spr {n set : Nat} {x : List Rat} {w : Nat} (hw : w < n) : (Xt n (Yi n set) x (Yi n set).length).getD w 0 = spr set (fun c => x.getD c 0) w := by
  rw [Yi, spreadTo_get hw _ (Nat.le_refl _), spr]
  by_cases hb : set.testBit w = true
  · rw [if_pos ⟨hb, Wn hw hb⟩, if_pos hb]
  · rw [if_neg (fun h => hb h.1), if_neg hb]

/-- The chance of an event. -/
def evq (n : Nat) (p : Nat → Rat) (e : Nat) : Rat := Zt (fun w => bitQ e w * p w) n
/-- A belief that agrees. -/
structure Feas (n : Nat) (l : List (Int × Int)) (p : Nat → Rat) : Prop where
  nn : ∀ w, w < n → 0 ≤ p w
  one : Zt p n = 1
  bet : ∀ i, i < l.length → evq n p (l.getD i (0, 0)).1.toNat = Rat.divInt (l.getD i (0, 0)).2 12
theorem sys_row0 (n : Nat) (l : List (Int × Int)) (set : Nat) (x : Nat → Rat) : Zt (fun c => sysB n l (Yi n set) 0 c * x c) (Yi n set).length = Zt (spr set x) n := by
  have h := ws_sum set (fun c w => bitQ (2 ^ n - 1) w * x c) n
  rw [Yi]
  rw [← show Zt (fun c => bitQ (2 ^ n - 1) ((Yd set n).getD c 0) * x c) (Yd set n).length = _ from Zj fun c hc => by simp only [sysB, if_true, hc], h]
  refine Zj fun w hw => ?_
  rw [spr, bitQ_all hw, Rat.one_mul]
theorem sys_row (n : Nat) (l : List (Int × Int)) (set : Nat) (x : Nat → Rat) (i : Nat) : Zt (fun c => sysB n l (Yi n set) (i + 1) c * x c) (Yi n set).length = evq n (spr set x) (l.getD i (0, 0)).1.toNat := by
  have h := ws_sum set (fun c w => bitQ (l.getD i (0, 0)).1.toNat w * x c) n
  rw [Yi]
  rw [← show Zt (fun c => bitQ (l.getD i (0, 0)).1.toNat ((Yd set n).getD c 0) * x c) (Yd set n).length = _ from Zj fun c hc => by simp only [sysB, show ¬ (i + 1 = 0) by omega, if_false, hc, if_true, Nat.add_sub_cancel], h, evq]
  refine Zj fun w hw => ?_
  rw [spr]
  split
  · rfl
  · rw [Rat.mul_zero]
theorem sys_right (n : Nat) (l : List (Int × Int)) (ws : List Nat) : sysB n l ws 0 ws.length = 1 ∧ ∀ i, sysB n l ws (i + 1) ws.length = Rat.divInt (l.getD i (0, 0)).2 12 :=
  ⟨by simp [sysB], fun i => by simp [sysB]⟩
theorem sol_iff {n : Nat} {l : List (Int × Int)} {set : Nat} {x : Nat → Rat} : Sol (l.length + 1) (Yi n set).length (sysB n l (Yi n set)) x ↔ Zt (spr set x) n = 1 ∧ ∀ i, i < l.length → evq n (spr set x) (l.getD i (0, 0)).1.toNat = Rat.divInt (l.getD i (0, 0)).2 12 := by
  obtain ⟨r0, r1⟩ := sys_right n l (Yi n set)
  constructor
  · intro h
    refine ⟨by rw [← sys_row0 n l, h 0 (by omega), r0], fun i hi => by rw [← sys_row n l, h (i + 1) (by omega), r1]⟩
  · rintro ⟨h1, h2⟩ i hi
    cases i with
    | zero => rw [sys_row0, h1, r0]
    | succ i => rw [sys_row, h2 i (by omega), r1]
theorem ker_iff {n : Nat} {l : List (Int × Int)} {set : Nat} {x : Nat → Rat} (h : Ker (l.length + 1) (Yi n set).length (sysB n l (Yi n set)) x) : Zt (spr set x) n = 0 ∧ ∀ i, i < l.length → evq n (spr set x) (l.getD i (0, 0)).1.toNat = 0 :=
  ⟨by rw [← sys_row0 n l, h 0 (by omega)], fun i hi => by rw [← sys_row n l, h (i + 1) (by omega)]⟩

theorem mem_cornersTo {n : Nat} {l : List (Int × Int)} {b : List Rat} : ∀ {s : Nat}, b ∈ Wh n l s ↔ ∃ set, 1 ≤ set ∧ set ≤ s ∧ Vb n l set = some b
  | 0 => by
    rw [Wh]
    constructor
    · intro h; cases h
    · rintro ⟨set, h1, h2, _⟩; omega
  | s + 1 => by
    rw [Wh, List.mem_append, mem_cornersTo]
    constructor
    · rintro (⟨set, h1, h2, h3⟩ | h)
      · exact ⟨set, h1, by omega, h3⟩
      · exact ⟨s + 1, by omega, Nat.le_refl _, by simpa using h⟩
    · rintro ⟨set, h1, h2, h3⟩
      by_cases h4 : set = s + 1
      · subst h4; exact .inr (by simp [h3])
      · exact .inl ⟨set, h1, by omega, h3⟩
theorem mem_corners {n : Nat} {l : List (Int × Int)} {b : List Rat} : b ∈ Yb n l ↔ ∃ set, 1 ≤ set ∧ set < 2 ^ n ∧ Vb n l set = some b := by
  rw [Yb, mem_cornersTo]
  have := Nat.two_pow_pos n
  constructor
  · rintro ⟨set, h1, h2, h3⟩; exact ⟨set, h1, by omega, h3⟩
  · rintro ⟨set, h1, h2, h3⟩; exact ⟨set, h1, by omega, h3⟩
/-- A corner agrees. -/
theorem corner_feas {n : Nat} {l : List (Int × Int)} {set : Nat} {b : List Rat} (h : Vb n l set = some b) : b.length = n ∧ Feas n l (fun w => b.getD w 0) := by
  rw [Vb] at h
  cases hs : Wz (l.length + 1) (Yi n set).length (sysB n l (Yi n set)) with
  | none => rw [hs] at h; cases h
  | some xs =>
    rw [hs] at h
    simp only [Option.bind_some] at h
    split at h
    · cases h
    · next hneg =>
      cases h
      obtain ⟨hl, hx⟩ := solve_some hs
      have hsol := sol_iff.1 ((hx (fun t => xs.getD t 0)).2 fun t ht => rfl)
      have e : ∀ w, w < n → (Xt n (Yi n set) xs (Yi n set).length).getD w 0 = spr set (fun c => xs.getD c 0) w := fun w hw => spread_spr hw
      refine ⟨Vi _ _ _ _, fun w hw => ?_, ?_, fun i hi => ?_⟩
      · rw [e w hw, spr]
        split
        · next hb =>
          have hlt := Wn hw hb
          have hlt2 : (Yd set w).length < xs.length := by rw [hl]; exact hlt
          rw [List.any_eq_true] at hneg
          rw [List.getD, List.getElem?_eq_getElem hlt2, Option.getD_some, ← Rat.not_lt]
          intro hc
          exact hneg ⟨_, List.getElem_mem hlt2, by simpa using hc⟩
        · exact Rat.le_refl
      · rw [Zj fun w hw => e w hw]; exact hsol.1
      · rw [evq, Zj (g := fun w => bitQ (l.getD i (0, 0)).1.toNat w * spr set (fun c => xs.getD c 0) w) fun w hw => by rw [e w hw]]
        exact hsol.2 i hi

/-- The worlds that can be true, as a set. -/
def msk (p : Nat → Rat) : Nat → Nat
  | 0 => 0
  | k + 1 => msk p k ||| if p k = 0 then 0 else 2 ^ k
theorem msk_bit (p : Nat → Rat) (w : Nat) : ∀ k, (msk p k).testBit w = true ↔ w < k ∧ p w ≠ 0
  | 0 => by simp [msk]
  | k + 1 => by
    rw [msk, Nat.testBit_or, Bool.or_eq_true, msk_bit p w k]
    by_cases h : p k = 0
    · rw [if_pos h, Nat.zero_testBit]
      constructor
      · rintro (⟨h1, h2⟩ | h1)
        · exact ⟨by omega, h2⟩
        · cases h1
      · rintro ⟨h1, h2⟩
        refine .inl ⟨?_, h2⟩
        rcases Nat.lt_or_ge w k with h3 | h3
        · exact h3
        · rw [show w = k by omega] at h2; exact absurd h h2
    · rw [if_neg h, Nat.testBit_two_pow, decide_eq_true_eq]
      constructor
      · rintro (⟨h1, h2⟩ | h1)
        · exact ⟨by omega, h2⟩
        · subst h1; exact ⟨by omega, h⟩
      · rintro ⟨h1, h2⟩
        by_cases h3 : k = w
        · exact .inr h3
        · exact .inl ⟨by omega, h2⟩
theorem msk_lt (p : Nat → Rat) (n : Nat) : msk p n < 2 ^ n := Nat.lt_pow_two_of_testBit _ fun i hi => by
  rw [← Bool.not_eq_true, msk_bit]; omega
/-- How many. -/
def cntN (p : Nat → Rat) : Nat → Nat
  | 0 => 0
  | k + 1 => cntN p k + if p k = 0 then 0 else 1
theorem cntN_lt {p q : Nat → Rat} {w : Nat} : ∀ n, (∀ v, v < n → q v ≠ 0 → p v ≠ 0) → (w < n → q w = 0 ∧ p w ≠ 0 → cntN q n < cntN p n) ∧ cntN q n ≤ cntN p n
  | 0, _ => ⟨fun h => by omega, Nat.le_refl _⟩
  | n + 1, h => by
    obtain ⟨h1, h2⟩ := cntN_lt (w := w) n fun v hv => h v (by omega)
    have h3 := h n (by omega)
    simp only [cntN]
    refine ⟨fun hw hq => ?_, ?_⟩
    · by_cases hwn : w = n
      · subst hwn
        rw [if_pos hq.1, if_neg hq.2]; omega
      · have := h1 (by omega) hq
        by_cases h4 : q n = 0
        · rw [if_pos h4]; split <;> omega
        · rw [if_neg h4, if_neg (h3 h4)]; omega
    · by_cases h4 : q n = 0
      · rw [if_pos h4]; split <;> omega
      · rw [if_neg h4, if_neg (h3 h4)]; omega
/-- The least of what may be. -/
theorem least_of (P : Nat → Prop) (r : Nat → Rat) : ∀ n, (∃ w, w < n ∧ P w) → ∃ w, w < n ∧ P w ∧ ∀ v, v < n → P v → r w ≤ r v
  | 0, ⟨w, h, _⟩ => by omega
  | n + 1, ⟨w, h, hp⟩ => by
    by_cases hex : ∃ w, w < n ∧ P w
    · obtain ⟨u, h1, h2, h3⟩ := least_of P r n hex
      by_cases hn : P n ∧ r n < r u
      · refine ⟨n, by omega, hn.1, fun v hv hpv => ?_⟩
        by_cases hvn : v = n
        · subst hvn; exact Rat.le_refl
        · exact Rat.le_trans (Rat.le_of_lt hn.2) (h3 v (by omega) hpv)
      · refine ⟨u, by omega, h2, fun v hv hpv => ?_⟩
        by_cases hvn : v = n
        · subst hvn
          rw [← Rat.not_lt]
          exact fun hc => hn ⟨hpv, hc⟩
        · exact h3 v (by omega) hpv
    · have hwn : w = n := by
        rcases Nat.lt_or_ge w n with h1 | h1
        · exact absurd ⟨w, h1, hp⟩ hex
        · omega
      subst hwn
      refine ⟨w, by omega, hp, fun v hv hpv => ?_⟩
      by_cases hvn : v = w
      · subst hvn; exact Rat.le_refl
      · exact absurd ⟨v, by omega, hpv⟩ hex
theorem neg_of_sum {n : Nat} {d : Nat → Rat} (hs : Zt d n = 0) (hne : ∃ w, w < n ∧ d w ≠ 0) : ∃ w, w < n ∧ d w < 0 := by
  by_cases h : ∃ w, w < n ∧ d w < 0
  · exact h
  · exfalso
    have h0 : ∀ w, w < n → 0 ≤ d w := fun w hw => by
      rw [← Rat.not_lt]; exact fun hc => h ⟨w, hw, hc⟩
    obtain ⟨w, hw, hd⟩ := hne
    have := sumTo_one hw h0
    rw [hs] at this
    exact hd (Rat.le_antisymm this (h0 w hw))
/-- **At a corner there is no more of anything than at any belief.** -/
theorem vertex {n : Nat} {l : List (Int × Int)} (f : Nat → Rat) : ∀ (N : Nat) (p : Nat → Rat), cntN p n ≤ N → Feas n l p → ∃ b, b ∈ Yb n l ∧ Zt (fun w => f w * b.getD w 0) n ≤ Zt (fun w => f w * p w) n := by
  intro N
  induction N with
  | zero =>
    intro p hc hp
    exfalso
    have : ∀ k, cntN p k = 0 → Zt p k = 0 := by
      intro k
      induction k with
      | zero => intro _; rfl
      | succ k ih =>
        intro h
        rw [cntN] at h
        rw [Zt, ih (by omega)]
        by_cases h1 : p k = 0
        · rw [h1, Rat.zero_add]
        · rw [if_neg h1] at h; omega
    have h1 := hp.one
    rw [this n (by omega)] at h1
    exact absurd h1 (by decide)
  | succ N ih =>
    intro p hc hp
    obtain ⟨set, hset⟩ : ∃ s, msk p n = s := ⟨_, rfl⟩
    have hbit : ∀ w, set.testBit w = true ↔ w < n ∧ p w ≠ 0 := fun w => by rw [← hset]; exact msk_bit p w n
    have hlt : set < 2 ^ n := by rw [← hset]; exact msk_lt p n
    have hpos : 1 ≤ set := by
      rcases Nat.eq_zero_or_pos set with h | h
      · exfalso
        have hz : Zt p n = 0 := Wy fun i hi => by
          rcases Decidable.em (p i = 0) with h1 | h1
          · exact h1
          · have := (hbit i).2 ⟨hi, h1⟩
            rw [h, Nat.zero_testBit] at this; cases this
        rw [hp.one] at hz
        exact absurd hz (by decide)
      · exact h
    have hspr : ∀ w, w < n → spr set (fun c => p ((Yi n set).getD c 0)) w = p w := fun w hw => by
      rw [spr]
      by_cases hb : set.testBit w = true
      · rw [if_pos hb, Yi, worldsTo_get hw hb]
      · rw [if_neg hb]
        rcases Decidable.em (p w = 0) with h1 | h1
        · exact h1.symm
        · exact absurd ((hbit w).2 ⟨hw, h1⟩) hb
    have hsol : Sol (l.length + 1) (Yi n set).length (sysB n l (Yi n set)) (fun c => p ((Yi n set).getD c 0)) := by
      rw [sol_iff]
      refine ⟨by rw [Zj hspr]; exact hp.one, fun i hi => ?_⟩
      rw [evq, Zj (g := fun w => bitQ (l.getD i (0, 0)).1.toNat w * p w) fun w hw => by rw [hspr w hw]]
      exact hp.bet i hi
    cases hs : Wz (l.length + 1) (Yi n set).length (sysB n l (Yi n set)) with
    | some xs =>
      obtain ⟨hl, hx⟩ := solve_some hs
      have hxp := (hx _).1 hsol
      have hcor : Vb n l set = some (Xt n (Yi n set) xs (Yi n set).length) := by
        rw [Vb, hs]
        simp only [Option.bind_some]
        rw [if_neg]
        rw [List.any_eq_true]
        rintro ⟨q, hq, hneg⟩
        obtain ⟨t, ht, rfl⟩ := List.getElem_of_mem hq
        have h1 := hxp t (by omega)
        have h1' : xs.getD t 0 = xs[t] := by rw [List.getD, List.getElem?_eq_getElem ht]; rfl
        rw [h1'] at h1
        simp only [decide_eq_true_eq] at hneg
        rw [← h1] at hneg
        have h2 := worldsTo_idx (set := set) (k := n) (c := t) (by rw [hl] at ht; exact ht)
        exact absurd (hp.nn _ h2.2.1) (Rat.not_le.2 hneg)
      refine ⟨_, mem_corners.2 ⟨set, hpos, hlt, hcor⟩, ?_⟩
      rw [Zj (g := fun w => f w * p w) fun w hw => by
        rw [spread_spr hw, ← hspr w hw, spr, spr]
        by_cases hb : set.testBit w = true
        · rw [if_pos hb, if_pos hb, hxp _ (Wn hw hb)]
        · rw [if_neg hb, if_neg hb]]
      exact Rat.le_refl
    | none =>
      rcases solve_none hs with h1 | ⟨δ, hk, c, hcl, hd⟩
      · exact absurd hsol (h1 _)
      · obtain ⟨k1, k2⟩ := ker_iff hk
        obtain ⟨i1, i2, i3⟩ := worldsTo_idx (set := set) (k := n) (c := c) hcl
        -- the side to which it does not grow
        obtain ⟨d, hd1, hd2, hd3, hd4, hd5⟩ : ∃ d : Nat → Rat, Zt d n = 0 ∧ (∀ i, i < l.length → evq n d (l.getD i (0, 0)).1.toNat = 0) ∧ (∀ w, w < n → p w = 0 → d w = 0) ∧ (∃ w, w < n ∧ d w ≠ 0) ∧ Zt (fun w => f w * d w) n ≤ 0 := by
          have z0 : ∀ w, w < n → p w = 0 → spr set δ w = 0 := fun w hw h0 => by
            rw [spr, if_neg]
            intro hb
            exact ((hbit w).1 hb).2 h0
          have n0 : spr set δ ((Yd set n).getD c 0) ≠ 0 := by rw [spr, if_pos i3, i1]; exact hd
          by_cases hsg : Zt (fun w => f w * spr set δ w) n ≤ 0
          · exact ⟨spr set δ, k1, k2, z0, ⟨_, i2, n0⟩, hsg⟩
          · refine ⟨fun w => -1 * spr set δ w, by rw [Xb, k1, Rat.mul_zero], fun i hi => ?_, fun w hw h0 => by simp only [z0 w hw h0, Rat.mul_zero], ⟨_, i2, fun h => n0 (by grind)⟩, ?_⟩
            · rw [evq, Zj (g := fun w => -1 * (bitQ (l.getD i (0, 0)).1.toNat w * spr set δ w)) fun w hw => by grind, Xb]
              have := k2 i hi
              rw [evq] at this
              rw [this, Rat.mul_zero]
            · rw [Zj (g := fun w => -1 * (f w * spr set δ w)) fun w hw => by grind, Xb]
              have := Rat.not_le.1 hsg
              generalize Zt (fun w => f w * spr set δ w) n = A at *
              grind
        obtain ⟨w0, hw0, hneg, hleast⟩ := least_of (fun w => d w < 0) (fun w => p w / (-(d w))) n (neg_of_sum hd1 hd4)
        obtain ⟨t, ht⟩ : ∃ t, p w0 / (-(d w0)) = t := ⟨_, rfl⟩
        have hdp : 0 < -(d w0) := by grind
        have hte : t * (-(d w0)) = p w0 := by rw [← ht]; exact Rat.div_mul_cancel (fun h => by rw [h] at hdp; exact absurd hdp (by decide))
        have ht0 : 0 ≤ t := by
          rw [← Rat.not_lt]
          intro hc
          have := (Rat.mul_lt_mul_right hdp).2 hc
          rw [Rat.zero_mul, hte] at this
          exact absurd (hp.nn w0 hw0) (Rat.not_le.2 this)
        have hpt : p w0 + t * d w0 = 0 := by
          have : t * (-(d w0)) = p w0 := by rw [← ht]; exact Rat.div_mul_cancel (fun h => by rw [h] at hdp; exact absurd hdp (by decide))
          grind
        have hq : Feas n l (fun w => p w + t * d w) := by
          refine ⟨fun w hw => ?_, by rw [Wc, Xb, hd1, hp.one, Rat.mul_zero, Rat.add_zero], fun i hi => ?_⟩
          · by_cases h1 : d w < 0
            · have h2 := hleast w hw h1
              rw [ht] at h2
              have h3 : 0 < -(d w) := by grind
              have h4 : t * (-(d w)) ≤ p w := by
                have h5 := Rat.mul_le_mul_of_nonneg_right h2 (Rat.le_of_lt h3)
                rwa [Rat.div_mul_cancel (fun h => by rw [h] at h3; exact absurd h3 (by decide))] at h5
              grind
            · exact Rat.add_nonneg (hp.nn w hw) (Rat.mul_nonneg ht0 (Rat.not_lt.1 h1))
          · have h1 := hp.bet i hi
            have h2 := hd2 i hi
            rw [evq] at h1 h2 ⊢
            rw [Zj (g := fun w => bitQ (l.getD i (0, 0)).1.toNat w * p w + t * (bitQ (l.getD i (0, 0)).1.toNat w * d w)) fun w hw => by grind, Wc, Xb, h1, h2, Rat.mul_zero, Rat.add_zero]
        have hcnt : cntN (fun w => p w + t * d w) n < cntN p n := (cntN_lt (w := w0) n fun v hv hne h0 => hne (by rw [h0, hd3 v hv h0]; grind)).1 hw0 ⟨hpt, fun h0 => by rw [hd3 w0 hw0 h0] at hneg; exact absurd hneg (by decide)⟩
        obtain ⟨b, hb1, hb2⟩ := ih _ (by omega) hq
        refine ⟨b, hb1, Rat.le_trans hb2 ?_⟩
        rw [Zj (g := fun w => f w * p w + t * (f w * d w)) fun w hw => by grind, Wc, Xb]
        have : t * Zt (fun w => f w * d w) n ≤ t * 0 := Rat.mul_le_mul_of_nonneg_left hd5 ht0
        rw [Rat.mul_zero] at this
        generalize Zt (fun w => f w * p w) n = A at *
        generalize t * Zt (fun w => f w * d w) n = B at *
        grind
end Bq

namespace Bq

/-- A system of noughts and ones, with twelfths on its right side. -/
structure Sy (m k : Nat) (T : Xv) : Prop where
  bit : ∀ i c, i < m → c < k → is01 (T i c)
  right : ∀ i, i < m → Zq 12 (T i k * ((12 : Nat) : Rat))
theorem fac01_le : ∀ n, n ≤ 5 → fac01 n ≤ 60 := by decide
theorem fac_bounds : ∀ n, n ≤ 5 → fac01 n * 12 ≤ 8640 ∧ (n + 1) * (12 * fac01 n) ≤ 8640 := by decide
theorem Sy.parts {m k : Nat} {T S : Xv} (s : Sy m k T) (hk : k ≤ 5) {j : Nat} (hj : j ≤ k) (hr : Xk m T j = some S) :
    ∃ D, 0 < D ∧ D ≤ 720 ∧ ∀ i c, i < m → c ≤ k → ∃ x : Int, Rp D x (S i c) ∧ x.natAbs ≤ 8640 := by
  obtain ⟨π, g⟩ := elim_gi hr
  obtain ⟨D, h1, h2, h3⟩ := g.parts (P := is01) (F := fac01) (fun n M h => det_01 n h) (k := k) (N := 12) (B := 12) (X := 8640) hj (by decide) s.bit s.right (fun n hn => (fac_bounds n (by omega)).1) (fun n hn => (fac_bounds n (by omega)).2)
  refine ⟨D, h1, ?_, h3⟩
  have := Nat.mul_le_mul_right 12 (fac01_le j (by omega))
  omega
theorem Sy.tame {m k : Nat} {T S : Xv} (s : Sy m k T) (hk : k ≤ 5) {j : Nat} (hj : j ≤ k) (hr : Xk m T j = some S) : Tame m k S := by
  obtain ⟨D, h1, h2, h3⟩ := s.parts hk hj hr
  refine ⟨D, h1, by omega, fun i c hi hc => ?_⟩
  obtain ⟨x, h4, h5⟩ := h3 i c hi hc
  exact ⟨x, h4, by omega⟩
/-- Prices are from 0 to 12. -/
def Cts (l : List (Int × Int)) : Prop := ∀ i, i < l.length → 0 ≤ (l.getD i (0, 0)).2 ∧ (l.getD i (0, 0)).2 ≤ 12
theorem sysB_sy {n : Nat} {l : List (Int × Int)} (hl : Cts l) (ws : List Nat) : Sy (l.length + 1) ws.length (sysB n l ws) := by
  obtain ⟨r0, r1⟩ := sys_right n l ws
  refine ⟨fun i c hi hc => ?_, fun i hi => ?_⟩
  · simp only [sysB, hc, if_true]
    split
    · exact bitQ_01 _ _
    · exact bitQ_01 _ _
  · cases i with
    | zero => rw [r0]; exact ⟨12, by decide +kernel, by decide⟩
    | succ i =>
      rw [r1]
      obtain ⟨h1, h2⟩ := hl i (by omega)
      refine ⟨_, divInt_mul (y := 12) (by decide), by omega⟩
theorem tame_all {n : Nat} {l : List (Int × Int)} (hn : n ≤ 5) (hl : Cts l) : TameAll n l := fun set h1 h2 j S hj hS =>
  (sysB_sy hl _).tame (Nat.le_trans (worldsTo_le set n) hn) hj hS
/-- A corner's chances are parts of one small number. -/
theorem corner_den {n : Nat} {l : List (Int × Int)} {set : Nat} {b : List Rat} (hn : n ≤ 5) (hl : Cts l) (h : Vb n l set = some b) : ∃ D, 0 < D ∧ D ≤ 720 ∧ ∀ w, w < n → (b.getD w 0).den ∣ D := by
  rw [Vb] at h
  cases hs : Wz (l.length + 1) (Yi n set).length (sysB n l (Yi n set)) with
  | none => rw [hs] at h; cases h
  | some xs =>
    rw [hs] at h
    simp only [Option.bind_some] at h
    split at h
    · cases h
    · cases h
      have hk : (Yi n set).length ≤ 5 := Nat.le_trans (worldsTo_le set n) hn
      rw [Wz] at hs
      cases hr : Xk (l.length + 1) (sysB n l (Yi n set)) (Yi n set).length with
      | none => rw [hr] at hs; cases hs
      | some S =>
        rw [hr] at hs
        simp only [Option.bind_some] at hs
        split at hs
        · cases hs
        · have hjm : (Yi n set).length ≤ l.length + 1 := by
            obtain ⟨π, g⟩ := elim_gi hr
            exact g.jm
          obtain ⟨D, h1, h2, h3⟩ := (sysB_sy (n := n) hl (Yi n set)).parts hk (Nat.le_refl _) hr
          refine ⟨D, h1, h2, fun w hw => ?_⟩
          rw [spread_spr hw, spr]
          split
          · next hb =>
            have hlt : (Yd set w).length < (Yi n set).length := Wn hw hb
            cases hs
            obtain ⟨x, g1, g2⟩ := h3 (Yd set w).length (Yi n set).length (Nat.lt_of_lt_of_le hlt hjm) (Nat.le_refl _)
            have e : ((List.range (Yi n set).length).map fun i => S i (Yi n set).length).getD (Yd set w).length 0 = S (Yd set w).length (Yi n set).length := by
              rw [List.getD, List.getElem?_map, List.getElem?_range hlt]; rfl
            rw [e]; exact g1.dvd
          · exact Nat.one_dvd _

/-- Bets are sound just if some belief agrees. -/
theorem sound_iff {n : Nat} {l : List (Int × Int)} : Yb n l ≠ [] ↔ ∃ p, Feas n l p := by
  constructor
  · intro h
    obtain ⟨b, hb⟩ := List.exists_mem_of_ne_nil _ h
    obtain ⟨set, h1, h2, h3⟩ := mem_corners.1 hb
    exact ⟨_, (corner_feas h3).2⟩
  · rintro ⟨p, hp⟩ h
    obtain ⟨b, hb, _⟩ := vertex (fun _ => 0) _ p (Nat.le_refl _) hp
    rw [h] at hb; cases hb
end Bq

/-
  bets: the corners, found.
  Printed by gen.py: the code of some functions, without what no step looks at; held against the program's own by the kernel.
  bets: copies of slices; slices held against each other.
  bets: Sound; that the program is awake.
  bets: law Worth.
  bets: law Grow.
  bets, plain: what a forecast loses against the belief.
  bets: law Proper.
  bets: law Best.
  bets: law Kept.
-/
import Derived.Test.YtcmindinomacbaaPk10
import Derived.Test.YtcmindinomacbaaPk3
import Derived.Test.YtcmindinomacbaaProg
import Derived.KernelRfl
import Derived.Shelf.Abstract
import Derived.Test.YtcmindinomacbaaPk6
import Derived.Test.YtcmindinomacbaaPk7
import Derived.Test.YtcmindinomacbaaPk9
import Derived.Test.YtcmindinomacbaaPk5
set_option linter.all false
namespace Go.Proofs.Try.Am
open Go.Am Bq
set_option maxRecDepth 100000
set_option maxHeartbeats 4000000

theorem loopEnd {a b : Nat} (h1 : ¬ (a : Int) < b) (h2 : a ≤ b) : b = a := by omega
theorem castI_snoc (L : List Nat) (k : Nat) : castI (L ++ [k]) = castI L ++ [(k : Int)] := by simp [castI]

theorem s60_callW [Tabs Try.prog] {args : List Value} {h : Zh} {Q : Value → Zh → Prop} (hsz : args.length ≤ 103) (hk : AWS Try.prog 103 s60 (Zr Try.prog [.tmp 2] Q) (Zt 0 args) h) : ACall Try.prog 60 args h Q :=
  Ym Try.func60 rfl (enters_of Try.func60 (by kernel_rfl) rfl) rfl rfl (by decide) s60_strip s60_ok hsz hk
theorem corners_call [Tabs prog] {h : Zh} {n : Nat} {v : Value} {l : List (Int × Int)} (hv : PairSl h v l) (hval : Vm n l = true) (htame : TameAll n l) :
    ACall prog 60 [.agg #[Zd (n : Nat), v]] h fun r h' => Ext (fun _ => False) h h' ∧ CornSl h' r (cornersB n l) ∧ ∀ b, Yg r = some b → h.length ≤ b := by
  obtain ⟨hn2, hn5, hl1, hl6, hok⟩ := valid_spec hval
  have hpn : (2 : Nat) ^ n ≤ 2 ^ 5 := Nat.pow_le_pow_right (by decide) hn5
  have hp32 : (2 : Nat) ^ n ≤ 32 := hpn
  have hpp := Nat.two_pow_pos n
  have hsh : shlV .i64 1 (n : Int) = ((2 ^ n : Nat) : Int) := by rw [shl1 (by omega), pow_cast]
  have hsub : subV .i64 ((2 ^ n : Nat) : Int) 1 = ((2 ^ n - 1 : Nat) : Int) := by rw [subN (by omega)]; omega
  obtain ⟨H, hH⟩ : ∃ H, H = h ++ [Blk.cells [Zd (n : Nat), v] 86 false] := ⟨_, rfl⟩
  have hE : Ext (fun _ => False) h H := by rw [hH]; exact Ext.app _ _ _
  have t1 : H[h.length]? = some (.cells [Zd (n : Nat), v] 86 false) := by rw [hH]; exact Zy _ _
  refine s60_callW (by simp) ?_
  simp only [s60]
  refine Ze fun N1 hN1 => ?_
  simp (maxSteps := 2000000) only [↓Za, ↓Zb, ↓Zc, vup, cond_true, cond_false, aop, Zg, Zt, ev, sput, Zf, Nat.reduceBEq, boxT, Yr]
  rw [← hH]
  refine hN1 [(1, .pointer (some ⟨h.length, 0, none⟩)), (2, .slice none 0 0)] _ _ ?_ (by simp (maxSteps := 2000000) only [vup, cond_true, cond_false, Nat.reduceBEq])
  clear hN1
  try clear N1
  refine Ze fun N2 hN2 => ?_
  simp (maxSteps := 2000000) only [↓Za, ↓Zb, ↓Zc, vup, cond_false, aop, Zg, ev, sput, Zf, Nat.reduceBEq]
  refine hN2 [(1, .pointer (some ⟨h.length, 0, none⟩)), (2, .slice none 0 0), (3, .slice none 0 0)] _ _ ?_ (by simp (maxSteps := 2000000) only [vup, cond_true, cond_false, Nat.reduceBEq])
  clear hN2
  try clear N2
  refine Zk fun Z hZ => ?_
  refine Ze fun N3 hN3 => ?_
  simp (maxSteps := 2000000) only [↓Za, ↓Zb, ↓Zc, vup, cond_false, aop, Zg, ev, sput, Zf, Nat.reduceBEq]
  refine hN3 [(1, .pointer (some ⟨h.length, 0, none⟩)), (2, .slice none 0 0), (3, .slice none 0 0), (4, .int .i64 1)] _ _ ?_ (by simp (maxSteps := 2000000) only [vup, cond_true, cond_false, Nat.reduceBEq])
  clear hN3
  try clear N3
  refine Zl ?_
  refine Zm fun Q hQ => ?_
  refine Yh (γ := Nat × Value × Zh) (fun s => 1 ≤ s.1 ∧ s.1 ≤ 2 ^ n ∧ CornSl s.2.2 s.2.1 (Wy n l (s.1 - 1)) ∧ Ext (fun _ => False) H s.2.2 ∧ ∀ b, Yg s.2.1 = some b → H.length ≤ b)
    (fun s => ([(1, .pointer (some ⟨h.length, 0, none⟩)), (2, .slice none 0 0), (3, s.2.1), (4, Zd (s.1 : Nat))], s.2.2)) (fun s => 2 ^ n - s.1) (1, .slice none 0 0, H) ⟨Nat.le_refl _, hpp, ⟨[], .inl ⟨rfl, rfl⟩, trivial⟩, Ext.refl _ _, fun b hb => by cases hb⟩ (by simp (maxSteps := 2000000) only [vup, cond_true, cond_false, Nat.reduceBEq, Int.natCast_one]) rfl ?_
  rintro ⟨s, out, hp⟩ ⟨hs1, hs, hcs, hEp, hbo⟩
  simp only at hs1 hs hcs hEp hbo
  refine Zm fun Q2 hQ2 => ?_
  simp only [l60_3]
  have t1p : hp[h.length]? = some (.cells [Zd (n : Nat), v] 86 false) := (hEp.2 _ (Yj t1) id).trans t1
  have hHl : h.length < H.length := Yj t1
  by_cases hin : (s : Int) < ((2 ^ n : Nat) : Int)
  · have hs' : s < 2 ^ n := by omega
    refine Ze fun N4 hN4 => ?_
    simp (maxSteps := 2000000) only [↓Za, ↓Zo, ↓Zs, ↓Zb, ↓Zc, ↓vdn, vup, cond_true, cond_false, aop, Zg, ev, sput, Zf, Zz, Ya, Nat.reduceBEq, tyf, tA0, loadT0 t1p, Int.natCast_nonneg, hsh, hin]
    refine hN4 [(1, .pointer (some ⟨h.length, 0, none⟩)), (2, .slice none 0 0), (3, out), (4, Zd (s : Nat))] _ _ ?_ (by simp (maxSteps := 2000000) only [vup, cond_true, cond_false, Nat.reduceBEq])
    clear hN4
    try clear N4
    refine Zk fun Y hY => ?_
    refine Zl ?_
    -- the worlds' box
    obtain ⟨H1, hH1⟩ : ∃ H1, H1 = hp ++ [Blk.cells [.slice none 0 0] 38 false] := ⟨_, rfl⟩
    have b5 : H1[hp.length]? = some (.cells [.slice none 0 0] 38 false) := by rw [hH1]; exact Zy _ _
    have hE1 : Ext (fun _ => False) hp H1 := by rw [hH1]; exact Ext.app _ _ _
    have hH1l : H1.length = hp.length + 1 := by rw [hH1]; simp
    refine Ze fun N5 hN5 => ?_
    simp (maxSteps := 2000000) only [↓Za, ↓Zb, ↓Zc, vup, cond_false, aop, Zg, sput, Zf, Nat.reduceBEq, tyf, Xe, Yr]
    rw [← hH1]
    refine hN5 [(1, .pointer (some ⟨h.length, 0, none⟩)), (2, .slice none 0 0), (3, out), (4, Zd (s : Nat)), (5, .pointer (some ⟨hp.length, 0, none⟩))] _ _ ?_ (by simp (maxSteps := 2000000) only [vup, cond_true, cond_false, Nat.reduceBEq])
    clear hN5
    try clear N5
    -- the worlds
    refine Zk fun X hX => ?_
    refine Ze fun N6 hN6 => ?_
    simp (maxSteps := 2000000) only [↓Za, ↓Zb, ↓Zc, vup, cond_true, cond_false, aop, Zg, ev, sput, Zf, Nat.reduceBEq, tA0, loadT0 ((hE1.2 _ (Yj t1p) id).trans t1p)]
    refine hN6 [(1, .pointer (some ⟨h.length, 0, none⟩)), (2, .slice none 0 0), (3, out), (4, Zd (s : Nat)), (5, .pointer (some ⟨hp.length, 0, none⟩)), (24, Zd (n : Nat)), (25, .int .i64 0)] _ _ ?_ (by simp (maxSteps := 2000000) only [vup, cond_true, cond_false, Nat.reduceBEq])
    clear hN6
    try clear N6
    refine Zl ?_
    refine Zm fun Qa hQa => ?_
    refine Yh (γ := Nat × Value × Zh) (fun g => g.1 ≤ n ∧ g.2.2[hp.length]? = some (.cells [g.2.1] 38 false) ∧ OwnSl 3 g.2.2 g.2.1 (castI (worldsTo s g.1)) ∧ Ext (fun _ => False) hp g.2.2 ∧ (∀ b, Yg g.2.1 = some b → hp.length < b))
      (fun g => ([(1, .pointer (some ⟨h.length, 0, none⟩)), (2, .slice none 0 0), (3, out), (4, Zd (s : Nat)), (5, .pointer (some ⟨hp.length, 0, none⟩)), (24, Zd (n : Nat)), (25, Zd (g.1 : Nat))], g.2.2)) (fun g => n - g.1) (0, .slice none 0 0, H1) ⟨Nat.zero_le _, b5, .inl ⟨rfl, rfl⟩, hE1, fun b hb => by cases hb⟩ (by simp (maxSteps := 2000000) only [vup, cond_true, cond_false, Nat.reduceBEq, Int.natCast_zero]) rfl ?_
    rintro ⟨k, wv, G⟩ ⟨hk, g5, how, hEG, hbw⟩
    simp only at hk g5 how hEG hbw
    refine Zm fun Qb hQb => ?_
    simp only [l60_0]
    by_cases hkin : (k : Int) < n
    · have hk' : k < n := by omega
      have ht := testV (y := k) (show s < 9223372036854775808 by omega)
      have hnx := worldsTo_succ s k
      refine Ze fun N7 hN7 => ?_
      simp (maxSteps := 2000000) only [↓Za, ↓Zb, ↓Zc, vup, cond_true, cond_false, aop, Zg, ev, sput, Zf, Zz, Ya, Nat.reduceBEq, hkin]
      refine hN7 [(1, .pointer (some ⟨h.length, 0, none⟩)), (2, .slice none 0 0), (3, out), (4, Zd (s : Nat)), (5, .pointer (some ⟨hp.length, 0, none⟩)), (24, Zd (n : Nat)), (25, Zd (k : Nat)), (26, .bool true)] _ _ ?_ (by simp (maxSteps := 2000000) only [vup, cond_true, cond_false, Nat.reduceBEq])
      clear hN7
      try clear N7
      refine Ze fun N8 hN8 => ?_
      simp (maxSteps := 2000000) only [↓Zo, ↓vdn, vup, cond_true, cond_false, Zg, ev, Nat.reduceBEq]
      refine hN8 [(1, .pointer (some ⟨h.length, 0, none⟩)), (2, .slice none 0 0), (3, out), (4, Zd (s : Nat)), (5, .pointer (some ⟨hp.length, 0, none⟩)), (24, Zd (n : Nat)), (25, Zd (k : Nat))] _ _ ?_ (by simp (maxSteps := 2000000) only [vup, cond_true, cond_false, Nat.reduceBEq])
      clear hN8
      try clear N8
      refine Zk fun B hB => ?_
      refine Zl ?_
      refine Ze fun N9 hN9 => ?_
      simp (maxSteps := 2000000) only [↓Za, ↓Zb, ↓Zc, vup, cond_true, cond_false, aop, Zg, ev, sput, Zf, Nat.reduceBEq]
      refine hN9 [(1, .pointer (some ⟨h.length, 0, none⟩)), (2, .slice none 0 0), (3, out), (4, Zd (s : Nat)), (5, .pointer (some ⟨hp.length, 0, none⟩)), (6, Zd (k : Nat)), (24, Zd (n : Nat)), (25, Zd (k : Nat))] _ _ ?_ (by simp (maxSteps := 2000000) only [vup, cond_true, cond_false, Nat.reduceBEq])
      clear hN9
      try clear N9
      refine Ze fun N10 hN10 => ?_
      simp (maxSteps := 2000000) only [↓Za, ↓Zb, ↓Zc, vup, cond_true, cond_false, aop, Zg, ev, sput, Zf, Zz, Ya, Nat.reduceBEq, ht, beq1, Int.natCast_nonneg]
      refine hN10 [(1, .pointer (some ⟨h.length, 0, none⟩)), (2, .slice none 0 0), (3, out), (4, Zd (s : Nat)), (5, .pointer (some ⟨hp.length, 0, none⟩)), (6, Zd (k : Nat)), (24, Zd (n : Nat)), (25, Zd (k : Nat)), (32, .bool (s.testBit k))] _ _ ?_ (by simp (maxSteps := 2000000) only [vup, cond_true, cond_false, Nat.reduceBEq])
      clear hN10
      try clear N10
      cases hbit : s.testBit k with
      | false =>
        rw [hbit, if_neg (by decide), List.append_nil] at hnx
        refine Xa rfl ?_
        refine Zj ?_
        simp (maxSteps := 2000000) only [↓Zo, Zg, Zn]
        refine hB [(1, .pointer (some ⟨h.length, 0, none⟩)), (2, .slice none 0 0), (3, out), (4, Zd (s : Nat)), (5, .pointer (some ⟨hp.length, 0, none⟩)), (24, Zd (n : Nat)), (25, Zd (k : Nat))] _ _ ?_ (by simp (maxSteps := 2000000) only [vup, cond_true, cond_false, Nat.reduceBEq])
        clear hB
        try clear B
        refine Zj ?_
        simp (maxSteps := 2000000) only [↓Za, ↓Zb, ↓Zc, vup, cond_true, cond_false, aop, ev, sput, Zf, Zz, Ya, Nat.reduceBEq, add1 (show k < 9223372036854775807 by omega)]
        exact hQb _ _ _ ⟨(k + 1, wv, G), ⟨hk', g5, by simp only; rw [hnx]; exact how, hEG, hbw⟩, by simp only; omega, by simp (maxSteps := 2000000) only [vup, cond_true, cond_false, Nat.reduceBEq], rfl⟩
      | true =>
        rw [hbit, if_pos rfl] at hnx
        refine Wf rfl ?_
        refine Zj ?_
        simp (maxSteps := 2000000) only [↓Za, ↓Zb, ↓Zc, vup, List.map_cons, List.map_nil, cond_true, cond_false, aop, Zg, Zn, ev, sput, Zf, Zi, Nat.reduceBEq, load1 g5 Vb, litI1]
        have hwl := worldsTo_le s k
        refine OwnSl.append (x := (k : Int)) (how.ext (S := fun _ => False) (Ext.app _ _ _) (fun _ _ => id)) app_38_38 (by rw [castI_len]; omega) (Zy _ _) ?_
        intro wv' G' ho' hE' hb'
        rw [← castI_snoc, ← hnx] at ho'
        have g5' : G'[hp.length]? = some (.cells [wv] 38 false) := by
          rw [hE'.2 _ (by rw [List.length_append]; have := Yj g5; omega) (fun hc => by have := hbw _ hc; omega)]
          exact Xg g5 _
        have hone : one wv' = true := ho'.notI.2
        have hE2 : Ext (fun _ => False) hp G' := ext_app hEG (H' := G ++ [Blk.ints [(k : Int)] 3 false]) (by simp) (fun q hq => List.getElem?_append_left (by have := hEG.1; omega)) (fun b hb => by have := hbw b hb; omega) hE'
        have hbw' : ∀ b, Yg wv' = some b → hp.length < b := fun b hb => by
          rcases hb' with h1 | ⟨b', h1, h2⟩
          · exact hbw b (h1 ▸ hb)
          · rw [h1] at hb; cases hb
            rw [List.length_append] at h2
            have := Yj g5; omega
        simp (maxSteps := 2000000) only [store1 g5' Vb hone]
        refine hB [(1, .pointer (some ⟨h.length, 0, none⟩)), (2, .slice none 0 0), (3, out), (4, Zd (s : Nat)), (5, .pointer (some ⟨hp.length, 0, none⟩)), (24, Zd (n : Nat)), (25, Zd (k : Nat))] _ _ ?_ (by simp (maxSteps := 2000000) only [vup, cond_true, cond_false, Nat.reduceBEq])
        clear hB
        try clear B
        refine Zj ?_
        simp (maxSteps := 2000000) only [↓Za, ↓Zb, ↓Zc, vup, cond_true, cond_false, aop, ev, sput, Zf, Zz, Ya, Nat.reduceBEq, add1 (show k < 9223372036854775807 by omega)]
        refine hQb _ _ _ ⟨(k + 1, wv', G'.set hp.length (.cells [wv'] 38 false)), ⟨hk', Xs (Yj g5') _, ?_, hE2.set_ge (Nat.le_refl _) _, hbw'⟩, by simp only; omega, by simp (maxSteps := 2000000) only [vup, cond_true, cond_false, Nat.reduceBEq], rfl⟩
        exact ho'.ext (S := fun b => b = hp.length) (Ext.set _ rfl) (fun b hb hc => by have := hbw' b hb; omega)
    have hkn := loopEnd hkin hk
    subst hkn
    refine Ze fun N11 hN11 => ?_
    simp (maxSteps := 2000000) only [↓Za, ↓Zb, ↓Zc, vup, cond_true, cond_false, aop, Zg, ev, sput, Zf, Zz, Ya, Nat.reduceBEq, hkin]
    refine hN11 [(1, .pointer (some ⟨h.length, 0, none⟩)), (2, .slice none 0 0), (3, out), (4, Zd (s : Nat)), (5, .pointer (some ⟨hp.length, 0, none⟩)), (24, Zd (n : Nat)), (25, Zd (n : Nat)), (26, .bool false)] _ _ ?_ (by simp (maxSteps := 2000000) only [vup, cond_true, cond_false, Nat.reduceBEq])
    clear hN11
    try clear N11
    refine Ze fun N12 hN12 => ?_
    simp (maxSteps := 2000000) only [↓Yn, ↓vdn, vup, cond_true, cond_false, Zg, ev, Nat.reduceBEq]
    refine hQb _ _ _ (hQa _ _ _ ?_)
    simp (maxSteps := 2000000) only [Zg, Zn, if_true]
    refine hX [(1, .pointer (some ⟨h.length, 0, none⟩)), (2, .slice none 0 0), (3, out), (4, Zd (s : Nat)), (5, .pointer (some ⟨hp.length, 0, none⟩)), (26, .bool false)] _ _ ?_ (by simp (maxSteps := 2000000) only [vup, cond_true, cond_false, Nat.reduceBEq])
    clear hX
    try clear X
    obtain ⟨W, hW⟩ : ∃ W, W = worldsTo s n := ⟨_, rfl⟩
    have hWN : Wz n s = W := hW.symm
    have hWl : W.length ≤ n := by rw [hW]; exact worldsTo_le s n
    have hW1 : 1 ≤ W.length := by rw [← hWN]; exact worldsN_pos hs1 hs'
    have hWlt : ∀ w ∈ W, w < n := fun w hw => (worldsTo_lt (by rw [← hW]; exact hw)).1
    have htm := htame s hs1 hs'
    rw [hWN] at htm
    rw [← hW] at how
    obtain ⟨T, hT⟩ : ∃ T, T = sysB n l W := ⟨_, rfl⟩
    have hcorner : cornerB n l s = (solveT (l.length + 1) W.length T).bind fun x => if x.any (fun q => decide (q < 0)) then none else some (Wq n W x W.length) := by rw [cornerB, hWN, hT]
    rw [← hT] at htm
    clear hW hQa hQb
    refine Ze fun N13 hN13 => ?_
    simp (maxSteps := 2000000) only [↓Za, ↓Zb, ↓Zc, vup, List.map_cons, List.map_nil, cond_true, cond_false, aop, Zg, ev, sput, Zf, Nat.reduceBEq, List.map_toArray]
    refine hN13 [(1, .pointer (some ⟨h.length, 0, none⟩)), (2, .slice none 0 0), (3, out), (4, Zd (s : Nat)), (5, .pointer (some ⟨hp.length, 0, none⟩)), (7, .func (.func 100) #[] #[.pointer (some ⟨hp.length, 0, none⟩)]), (26, .bool false)] _ _ ?_ (by simp (maxSteps := 2000000) only [vup, cond_true, cond_false, Nat.reduceBEq])
    clear hN13
    try clear N13
    -- the first row
    have hpG : hp.length < G.length := Yj g5
    have t1G : G[h.length]? = some (.cells [Zd (n : Nat), v] 86 false) := (hEG.2 _ (Yj t1p) id).trans t1p
    refine Ze fun N14 hN14 => ?_
    simp only [q60_13]
    refine Yo [(5, 1), (6, 4)] (by kernel_rfl) (by kernel_rfl) (by kernel_rfl) (by kernel_rfl) ?_
    simp (maxSteps := 2000000) only [↓Zp, ↓vdn, vup, List.map_cons, List.map_nil, cond_true, cond_false, aop, Zg, ev, sput, Zf, Zz, Ya, Nat.reduceBEq, Nat.reduceAdd, tyf, tA0, loadT0 t1G, Int.natCast_nonneg, hsh, hsub, Yk, List.nil_append, List.append_nil, List.cons_append]
    refine ⟨_, _, (show Yv prog 70 [Zd 1] G (qV ((1 : Int) : Rat)) from Wu), rfl, ?_⟩
    refine (row_call (q := ((1 : Int) : Rat)) g5 how.int (by omega) (show 2 ^ n - 1 < 9223372036854775808 by omega)).mono ?_
    rintro r0 G1 ⟨x1, x2, x3⟩
    have x2' : OwnP 26 G1 r0 (rowC T W.length 0) := by rw [hT, rowC_sum]; exact x2
    obtain ⟨bb, yy, hr0, -⟩ := Ve x2' rowC_ne
    have lit0 : ∀ K : Value → Zh → Prop, Yp prog G1 103 1 [(0, r0)] K = K (.slice (some ⟨G1.length, 0, none⟩) 1 1) (G1 ++ [.cells [r0] 47 false]) := fun K => by rw [hr0]; exact litV el_103 zero_47 esz_47
    simp (maxSteps := 2000000) only [lit0]
    refine hN14 [(1, .pointer (some ⟨h.length, 0, none⟩)), (2, .slice none 0 0), (3, out), (4, Zd (s : Nat)), (5, .pointer (some ⟨hp.length, 0, none⟩)), (7, .func (.func 100) #[] #[.pointer (some ⟨hp.length, 0, none⟩)]), (8, .slice (some ⟨G1.length, 0, none⟩) 1 1), (26, .bool false)] _ _ ?_ (by simp (maxSteps := 2000000) only [vup, cond_true, cond_false, Nat.reduceBEq])
    clear hN14
    try clear N14
    have hbr0 : Yg r0 = some bb := by rw [hr0]; rfl
    have hbb := x3 bb hbr0
    have R0 : Rows hp.length (G1 ++ [.cells [r0] 47 false]) (.slice (some ⟨G1.length, 0, none⟩) 1 1) [r0] W.length T := by
      obtain ⟨b2, y2, e1, e2⟩ := Ve x2' rowC_ne
      have hbl : bb < G1.length := by rw [e1] at hbr0; cases hbr0; exact Yj e2
      refine ⟨.inl ⟨_, rfl, Zy _ _⟩, by simp, fun i hi => ?_, fun i j hi hj _ => ?_, fun i hi hc => ?_, ⟨fun b hb => ?_, fun i b hi hb => ?_⟩⟩
      · obtain rfl : i = 0 := by simpa using hi
        exact x2'.ext (Ext.app _ _ _)
      · simp at hi hj; omega
      · obtain rfl : i = 0 := by simpa using hi
        simp only [List.getD, List.getElem?_cons_zero, Option.getD_some, hbr0] at hc
        cases hc; omega
      · cases hb; have := x1.1; omega
      · obtain rfl : i = 0 := by simpa using hi
        simp only [List.getD, List.getElem?_cons_zero, Option.getD_some, hbr0] at hb
        cases hb; omega
    have how0 : OwnSl 3 (G1 ++ [.cells [r0] 47 false]) wv (castI W) := how.ext (S := fun _ => False) (x1.trans (Ext.app _ _ _)) (fun _ _ => id)
    have g50 : (G1 ++ [Blk.cells [r0] 47 false])[hp.length]? = some (.cells [wv] 38 false) := Xg ((x1.2 _ hpG id).trans g5) _
    have hE0 : Ext (fun _ => False) hp (G1 ++ [.cells [r0] 47 false]) := hEG.trans (x1.trans (Ext.app _ _ _))
    clear x1 x2 x2' x3 lit0 g5 how hEG t1G b5 hE1 hH1 hH1l H1
    have tI : ∀ G : Zh, Ext (fun _ => False) hp G → G[h.length]? = some (.cells [Zd (n : Nat), v] 86 false) ∧ PairSl G v l := fun G hx => ⟨(hx.2 _ (Yj t1p) id).trans t1p, hv.ext (hE.trans (hEp.trans hx))⟩
    -- a row for each bet
    refine Zk fun X hX => ?_
    refine Ze fun N15 hN15 => ?_
    simp (maxSteps := 2000000) only [↓Za, ↓Zb, ↓Zc, vup, List.map_cons, List.map_nil, cond_true, cond_false, aop, Zg, ev, sput, Zf, Zi, Nat.reduceBEq, tyf, tA1, loadT1 (tI _ hE0).1, hv.len]
    refine hN15 [(1, .pointer (some ⟨h.length, 0, none⟩)), (2, .slice none 0 0), (3, out), (4, Zd (s : Nat)), (5, .pointer (some ⟨hp.length, 0, none⟩)), (7, .func (.func 100) #[] #[.pointer (some ⟨hp.length, 0, none⟩)]), (8, .slice (some ⟨G1.length, 0, none⟩) 1 1), (26, .bool false), (48, v), (49, Zd l.length), (50, .int .i64 0)] _ _ ?_ (by simp (maxSteps := 2000000) only [vup, cond_true, cond_false, Nat.reduceBEq])
    clear hN15
    try clear N15
    refine Zl ?_
    refine Zm fun Qa hQa => ?_
    refine Yh (γ := Nat × Value × List Value × Zh) (fun g => g.1 ≤ l.length ∧ g.2.2.1.length = g.1 + 1 ∧ Rows hp.length g.2.2.2 g.2.1 g.2.2.1 W.length T ∧ (1 ≤ g.1 → OwnV 47 g.2.2.2 g.2.1 g.2.2.1) ∧ Ext (fun _ => False) hp g.2.2.2 ∧ g.2.2.2[hp.length]? = some (.cells [wv] 38 false) ∧ OwnSl 3 g.2.2.2 wv (castI W))
      (fun g => ([(1, .pointer (some ⟨h.length, 0, none⟩)), (2, .slice none 0 0), (3, out), (4, Zd (s : Nat)), (5, .pointer (some ⟨hp.length, 0, none⟩)), (7, .func (.func 100) #[] #[.pointer (some ⟨hp.length, 0, none⟩)]), (8, g.2.1), (26, .bool false), (48, v), (49, Zd l.length), (50, Zd (g.1 : Nat))], g.2.2.2)) (fun g => l.length - g.1) (0, .slice (some ⟨G1.length, 0, none⟩) 1 1, [r0], G1 ++ [.cells [r0] 47 false]) ⟨Nat.zero_le _, rfl, R0, fun h0 => absurd h0 (by simp), hE0, g50, how0⟩ (by simp (maxSteps := 2000000) only [vup, cond_true, cond_false, Nat.reduceBEq, Int.natCast_zero]) rfl ?_
    rintro ⟨i, q, ws, G⟩ ⟨hi, hwsl, R, hOwn, hEG, g5, how⟩
    simp only at hi hwsl R hOwn hEG g5 how
    refine Zm fun Qb hQb => ?_
    simp only [l60_1]
    have sepq : Yg q ≠ some hp.length ∧ ∀ b, Yg wv = some b → Yg q ≠ some b := by
      obtain ⟨bq, cq, e1, e2, e3⟩ := R.sl.blk R.ne
      refine ⟨fun hc => ?_, fun b hb hc => ?_⟩
      · rw [e1] at hc; cases hc
        rw [g5] at e2; cases e2
      · rw [e1] at hc; cases hc
        obtain ⟨ys, e4⟩ := how.ints hb
        rw [e4] at e2; cases e2
    by_cases hiin : (i : Int) < l.length
    · have hi' : i < l.length := by omega
      obtain ⟨tG, hvG⟩ := tI G hEG
      obtain ⟨⟨x, y⟩, hxy⟩ : ∃ p, l.getD i (0, 0) = p := ⟨_, rfl⟩
      have hb := hok i hi'
      rw [hxy] at hb
      simp only [okB, Bool.and_eq_true, decide_eq_true_eq] at hb
      obtain ⟨e, he⟩ : ∃ e : Nat, x = e := ⟨x.toNat, by omega⟩
      subst he
      have hee : e < 2 ^ n := by
        have := hb.2.1
        exact_mod_cast this
      refine Ze fun N16 hN16 => ?_
      simp (maxSteps := 2000000) only [↓Za, ↓Zb, ↓Zc, vup, cond_true, cond_false, aop, Zg, ev, sput, Zf, Zz, Ya, Nat.reduceBEq, hiin]
      refine hN16 [(1, .pointer (some ⟨h.length, 0, none⟩)), (2, .slice none 0 0), (3, out), (4, Zd (s : Nat)), (5, .pointer (some ⟨hp.length, 0, none⟩)), (7, .func (.func 100) #[] #[.pointer (some ⟨hp.length, 0, none⟩)]), (8, q), (26, .bool false), (48, v), (49, Zd l.length), (50, Zd (i : Nat)), (51, .bool true)] _ _ ?_ (by simp (maxSteps := 2000000) only [vup, cond_true, cond_false, Nat.reduceBEq])
      clear hN16
      try clear N16
      refine Ze fun N17 hN17 => ?_
      simp (maxSteps := 2000000) only [↓Zo, ↓vdn, vup, cond_true, cond_false, Zg, ev, Nat.reduceBEq]
      refine hN17 [(1, .pointer (some ⟨h.length, 0, none⟩)), (2, .slice none 0 0), (3, out), (4, Zd (s : Nat)), (5, .pointer (some ⟨hp.length, 0, none⟩)), (7, .func (.func 100) #[] #[.pointer (some ⟨hp.length, 0, none⟩)]), (8, q), (26, .bool false), (48, v), (49, Zd l.length), (50, Zd (i : Nat))] _ _ ?_ (by simp (maxSteps := 2000000) only [vup, cond_true, cond_false, Nat.reduceBEq])
      clear hN17
      try clear N17
      refine Zk fun B hB => ?_
      refine Zl ?_
      obtain ⟨G2, hG2⟩ : ∃ G2, G2 = G ++ [bB e y] := ⟨_, rfl⟩
      have c10 : G2[G.length]? = some (bB e y) := by rw [hG2]; exact Zy _ _
      have hE2 : Ext (fun _ => False) G G2 := by rw [hG2]; exact Ext.app _ _ _
      have hG2l : G2.length = G.length + 1 := by rw [hG2]; simp
      refine Ze fun N18 hN18 => ?_
      simp (maxSteps := 2000000) only [↓Za, ↓Zb, ↓Zc, vup, cond_true, cond_false, aop, Zg, ev, sput, Zf, Nat.reduceBEq, tyf, hvG.idx el_30 esz_92 hi', hvG.load shp_92 hi', hxy, Xe, Yr, storeBt (Zy G zB) rfl, Xn]
      rw [← hG2]
      refine hN18 [(1, .pointer (some ⟨h.length, 0, none⟩)), (2, .slice none 0 0), (3, out), (4, Zd (s : Nat)), (5, .pointer (some ⟨hp.length, 0, none⟩)), (7, .func (.func 100) #[] #[.pointer (some ⟨hp.length, 0, none⟩)]), (8, q), (10, .pointer (some ⟨G.length, 0, none⟩)), (26, .bool false), (48, v), (49, Zd l.length), (50, Zd (i : Nat))] _ _ ?_ (by simp (maxSteps := 2000000) only [vup, cond_true, cond_false, Nat.reduceBEq])
      clear hN18
      try clear N18
      refine Zj ?_
      simp only [q60_17]
      refine Yo [(6, 1), (7, 4)] (by kernel_rfl) (by kernel_rfl) (by kernel_rfl) (by kernel_rfl) ?_
      simp (maxSteps := 2000000) only [↓Zp, ↓vdn, vup, List.map_cons, List.map_nil, cond_true, cond_false, aop, Zg, Zn, ev, sput, Zf, Zi, Nat.reduceBEq, Nat.reduceAdd, bA0, bA1, loadB0 c10, loadB1 c10, Yk, List.nil_append, List.append_nil, List.cons_append]
      refine ⟨_, _, (show Yv prog 64 [Zd y, Zd 12] G2 (qV (Rat.divInt y 12)) from Wp (by decide) (by omega) (by decide)), rfl, ?_⟩
      refine (row_call (q := Rat.divInt y 12) ((hE2.2 _ (Yj g5) id).trans g5) (how.ext (S := fun _ => False) hE2 (fun _ _ => id)).int (by omega) (show e < 9223372036854775808 by omega)).mono ?_
      rintro rv G3 ⟨x1, x2, x3⟩
      have x2' : OwnP 26 G3 rv (rowC T W.length ws.length) := by
        rw [hwsl, hT, rowC_bet, hxy]; exact x2
      obtain ⟨bb, yy, hrv, -⟩ := Ve x2' rowC_ne
      have lit0 : ∀ K : Value → Zh → Prop, Yp prog G3 103 1 [(0, rv)] K = K (.slice (some ⟨G3.length, 0, none⟩) 1 1) (G3 ++ [.cells [rv] 47 false]) := fun K => by rw [hrv]; exact litV el_103 zero_47 esz_47
      simp (maxSteps := 2000000) only [lit0]
      have hE34 : Ext (fun _ => False) G (G3 ++ [.cells [rv] 47 false]) := hE2.trans (x1.trans (Ext.app _ _ _))
      refine R.more (by omega) (by have := hEG.1; omega) hE34 (x2'.ext (Ext.app _ _ _)) (fun b hb => by have := x3 b hb; omega) (Zy _ _) fun q' h' ho' R' hEa hEb => ?_
      have keep : ∀ b, b < G.length → Yg q ≠ some b → h'[b]? = G[b]? := fun b hb hne => by
        rw [hEb.2 b (by have := hE34.1; omega) hne]; exact hE34.2 b hb id
      have hEh : Ext (fun _ => False) hp h' := by
        refine ⟨by have := hEG.1; have := hE34.1; have := hEa.1; omega, fun z hz _ => ?_⟩
        rw [hEa.2 z (by have := hEG.1; have := hE34.1; omega) (by omega), hE34.2 z (by have := hEG.1; omega) id]
        exact hEG.2 z hz id
      have g5' : h'[hp.length]? = some (.cells [wv] 38 false) := by rw [keep _ (Yj g5) sepq.1]; exact g5
      have how' : OwnSl 3 h' wv (castI W) := how.same fun b hb => keep b (how.lt hb) (sepq.2 b hb)
      refine hB [(1, .pointer (some ⟨h.length, 0, none⟩)), (2, .slice none 0 0), (3, out), (4, Zd (s : Nat)), (5, .pointer (some ⟨hp.length, 0, none⟩)), (7, .func (.func 100) #[] #[.pointer (some ⟨hp.length, 0, none⟩)]), (8, q'), (26, .bool false), (48, v), (49, Zd l.length), (50, Zd (i : Nat))] _ _ ?_ (by simp (maxSteps := 2000000) only [vup, cond_true, cond_false, Nat.reduceBEq])
      clear hB
      try clear B
      refine Zj ?_
      simp (maxSteps := 2000000) only [↓Za, ↓Zb, ↓Zc, vup, cond_true, cond_false, aop, ev, sput, Zf, Zz, Ya, Nat.reduceBEq, add1 (show i < 9223372036854775807 by omega)]
      exact hQb _ _ _ ⟨(i + 1, q', ws ++ [rv], h'), ⟨hi', by simp [hwsl], R', fun _ => ho', hEh, g5', how'⟩, by simp only; omega, by simp (maxSteps := 2000000) only [vup, cond_true, cond_false, Nat.reduceBEq], rfl⟩
    have hil := loopEnd hiin hi
    subst hil
    refine Ze fun N19 hN19 => ?_
    simp (maxSteps := 2000000) only [↓Za, ↓Zb, ↓Zc, vup, cond_true, cond_false, aop, Zg, ev, sput, Zf, Zz, Ya, Nat.reduceBEq, hiin]
    refine hN19 [(1, .pointer (some ⟨h.length, 0, none⟩)), (2, .slice none 0 0), (3, out), (4, Zd (s : Nat)), (5, .pointer (some ⟨hp.length, 0, none⟩)), (7, .func (.func 100) #[] #[.pointer (some ⟨hp.length, 0, none⟩)]), (8, q), (26, .bool false), (48, v), (49, Zd l.length), (50, Zd (l.length : Nat)), (51, .bool false)] _ _ ?_ (by simp (maxSteps := 2000000) only [vup, cond_true, cond_false, Nat.reduceBEq])
    clear hN19
    try clear N19
    refine Ze fun N20 hN20 => ?_
    simp (maxSteps := 2000000) only [↓Yn, ↓vdn, vup, cond_true, cond_false, Zg, ev, Nat.reduceBEq]
    refine hQb _ _ _ (hQa _ _ _ ?_)
    simp (maxSteps := 2000000) only [Zg, Zn, if_true]
    refine hX [(1, .pointer (some ⟨h.length, 0, none⟩)), (2, .slice none 0 0), (3, out), (4, Zd (s : Nat)), (5, .pointer (some ⟨hp.length, 0, none⟩)), (7, .func (.func 100) #[] #[.pointer (some ⟨hp.length, 0, none⟩)]), (8, q), (26, .bool false), (51, .bool false)] _ _ ?_ (by simp (maxSteps := 2000000) only [vup, cond_true, cond_false, Nat.reduceBEq])
    clear hX
    try clear X
    have ho := hOwn hl1
    obtain ⟨B, C, hqe, hBC, hBp, M, hbkp⟩ := R.mat ho
    rw [hwsl] at hqe hBC M hbkp
    -- it is solved
    have hli : (castI W).length = W.length := castI_len W
    have hsolve := solve_call M hBC (by omega) (by omega) hW1 (by omega) htm
    refine Ze fun N21 hN21 => ?_
    simp (maxSteps := 2000000) only [↓Za, ↓Zb, ↓Zc, vup, List.map_cons, List.map_nil, cond_true, cond_false, aop, Zg, ev, sput, Zf, Zi, Nat.reduceBEq, tyf, load1 g5 Vb, how.int.len, hli, hqe, Yk, List.nil_append, List.append_nil]
    refine hsolve.mono ?_
    rintro r G' ⟨hEs, x, ok, rfl, hres⟩
    simp (maxSteps := 2000000) only [extr_20, extr_21]
    refine hN21 [(1, .pointer (some ⟨h.length, 0, none⟩)), (2, .slice none 0 0), (3, out), (4, Zd (s : Nat)), (5, .pointer (some ⟨hp.length, 0, none⟩)), (7, .func (.func 100) #[] #[.pointer (some ⟨hp.length, 0, none⟩)]), (11, x), (12, .bool ok), (26, .bool false), (51, .bool false)] _ _ ?_ (by simp (maxSteps := 2000000) only [vup, cond_true, cond_false, Nat.reduceBEq])
    clear hN21
    try clear N21
    have hBk : ∀ b, Tch B (l.length + 1) (fun i => bkOf (ws.getD i undef)) b → hp.length ≤ b ∧ b ≠ hp.length ∧ ∀ b', Yg wv = some b' → b ≠ b' := fun b hb => by
      rcases hb with rfl | ⟨j, hj, rfl⟩
      · obtain ⟨us, e2⟩ := M.outer
        refine ⟨hBp, fun hc => ?_, fun b' hb' hc => ?_⟩
        · rw [← hc, e2] at g5
          exact absurd (Blk.cells.inj (Option.some.inj g5)).2.1 (by decide)
        · obtain ⟨ys, e4⟩ := how.ints hb'
          rw [← hc, e2] at e4; cases e4
      · obtain ⟨cc, xs, e1, e3, e2⟩ := M.row j hj
        refine ⟨hbkp j hj, fun hc => ?_, fun b' hb' hc => ?_⟩
        · have e2' : G[bkOf (ws.getD j undef)]? = _ := e2
          have hc' : bkOf (ws.getD j undef) = hp.length := hc
          rw [hc', g5] at e2'; cases e2'
        · obtain ⟨ys, e4⟩ := how.ints hb'
          have e2' : G[bkOf (ws.getD j undef)]? = _ := e2
          have hc' : bkOf (ws.getD j undef) = b' := hc
          rw [hc', e4] at e2'; cases e2'
    have hEG' : Ext (fun _ => False) hp G' := by
      refine ⟨by have := hEG.1; have := hEs.1; omega, fun z hz _ => ?_⟩
      rw [hEs.2 z (by have := hEG.1; omega) (fun hc => by have := (hBk z hc).1; omega)]
      exact hEG.2 z hz id
    have g5' : G'[hp.length]? = some (.cells [wv] 38 false) := by
      rw [hEs.2 _ (Yj g5) (fun hc => (hBk _ hc).2.1 rfl)]; exact g5
    have how' : OwnSl 3 G' wv (castI W) := how.same fun b hb => hEs.2 b (how.lt hb) (fun hc => (hBk _ hc).2.2 b hb rfl)
    have hlen' : G.length ≤ G'.length := hEs.1
    clear hQa hQb M R hOwn sepq ho hsolve hBk hEs hqe g50 how0 hE0 R0 hlen'
    -- the next set
    have goOn : ∀ e out' G2, CornSl G2 out' (Wy n l s) → Ext (fun _ => False) H G2 → (∀ b, Yg out' = some b → H.length ≤ b) → ELe e [(1, .pointer (some ⟨h.length, 0, none⟩)), (2, .slice none 0 0), (3, out'), (4, Zd (s : Nat)), (26, .bool false), (51, .bool false)] → Y e G2 := by
      intro e out' G2 c1 c2 c3 he
      refine hY _ _ _ ?_ he
      refine Zj ?_
      have ea : addV .i64 (s : Int) 1 = ((s + 1 : Nat) : Int) := add1 (by omega)
      simp (maxSteps := 2000000) only [↓Za, ↓Zb, ↓Zc, vup, cond_true, cond_false, aop, ev, sput, Zf, Zz, Ya, Nat.reduceBEq, ea]
      exact hQ2 _ _ _ ⟨(s + 1, out', G2), ⟨by simp only; omega, by simp only; omega, by simpa using c1, c2, c3⟩, by simp only; omega, by simp (maxSteps := 2000000) only [vup, cond_true, cond_false, Nat.reduceBEq], rfl⟩
    have hcsucc : Wy n l s = Wy n l (s - 1) ++ (cornerB n l s).toList := by
      obtain ⟨s', rfl⟩ : ∃ s', s = s' + 1 := ⟨s - 1, by omega⟩
      rw [Wy]; simp
    have skip : cornerB n l s = none → ∀ e, ELe e [(1, .pointer (some ⟨h.length, 0, none⟩)), (2, .slice none 0 0), (3, out), (4, Zd (s : Nat)), (26, .bool false), (51, .bool false)] → Y e G' := fun h0 e he => goOn e out G' (by rw [hcsucc, h0]; simpa using hcs.ext hEG') (hEp.trans hEG') hbo he
    cases hsol : solveT (l.length + 1) W.length T with
    | none =>
      rw [hsol] at hres hcorner
      simp only at hres
      obtain ⟨rfl, rfl⟩ := hres
      refine Zj ?_
      simp (maxSteps := 2000000) only [↓Za, ↓Zs, ↓Yn, ↓Zb, ↓Zc, ↓vdn, vup, cond_true, cond_false, aop, Zg, Zn, ev, sput, Zf, unK, Nat.reduceBEq]
      exact skip hcorner _ (by simp (maxSteps := 2000000) only [vup, cond_true, cond_false, Nat.reduceBEq])
    | some xs =>
      rw [hsol, Option.bind_some] at hcorner
      rw [hsol] at hres
      simp only at hres
      obtain ⟨rfl, hox, hbx⟩ := hres
      have hxl : xs.length = W.length := solveT_len hsol
      have hany : ((xs.map ofQ).any fun p => decide (p.1 < 0)) = xs.any fun q => decide (q < 0) := by
        rw [List.any_map]
        congr 1
        funext q
        refine decide_eq_decide.2 ?_
        show q.num < 0 ↔ q < 0
        rw [← Rat.not_le, ← Rat.num_nonneg]; omega
      have hneg := hasF_call (g := 102) (cap := #[]) (f := fun p => decide (p.1 < 0)) hox.pair (by simp; omega) (fun h' hx p hp => neg_call)
      rw [hany] at hneg
      refine Zk fun X hX => ?_
      refine Ze fun N22 hN22 => ?_
      simp (maxSteps := 2000000) only [↓Za, ↓Zb, ↓Zc, ↓vdn, vup, List.map_cons, List.map_nil, cond_true, cond_false, aop, Zg, ev, sput, Zf, unK, Nat.reduceBEq, Yk, List.nil_append, List.append_nil]
      refine hneg.mono ?_
      rintro _ G' ⟨rfl, rfl⟩
      refine hN22 [(1, .pointer (some ⟨h.length, 0, none⟩)), (2, .slice none 0 0), (3, out), (4, Zd (s : Nat)), (5, .pointer (some ⟨hp.length, 0, none⟩)), (7, .func (.func 100) #[] #[.pointer (some ⟨hp.length, 0, none⟩)]), (11, x), (12, .bool true), (26, .bool false), (51, .bool false), (77, .bool (xs.any fun q => decide (q < 0)))] _ _ ?_ (by simp (maxSteps := 2000000) only [vup, cond_true, cond_false, Nat.reduceBEq])
      clear hN22
      try clear N22
      cases hn : xs.any fun q => decide (q < 0) with
      | true =>
        rw [hn, if_pos rfl] at hcorner
        refine Wf rfl ?_
        refine Zj ?_
        simp (maxSteps := 2000000) only [↓Yn, Zg, Zn]
        exact skip hcorner _ (by simp (maxSteps := 2000000) only [vup, cond_true, cond_false, Nat.reduceBEq])
      | false =>
        rw [hn, if_neg (by decide)] at hcorner
        refine Xa rfl ?_
        refine Zj ?_
        simp (maxSteps := 2000000) only [↓Zo, Zg]
        refine hX [(1, .pointer (some ⟨h.length, 0, none⟩)), (2, .slice none 0 0), (3, out), (4, Zd (s : Nat)), (5, .pointer (some ⟨hp.length, 0, none⟩)), (7, .func (.func 100) #[] #[.pointer (some ⟨hp.length, 0, none⟩)]), (11, x), (26, .bool false), (51, .bool false)] _ _ ?_ (by simp (maxSteps := 2000000) only [vup, cond_true, cond_false, Nat.reduceBEq])
        clear hX
        try clear X
        obtain ⟨tG, -⟩ := tI G' hEG'
        -- the belief
        obtain ⟨F, hF⟩ : ∃ F : Nat → Zh, F = fun k => G' ++ [.ints [0, 1] 26 false] ++ [.cells ((Yb ((Wq n W xs k).map ofQ)).map Zd) 26 false] := ⟨_, rfl⟩
        have hF0 : ∀ k, (F k)[G'.length + 1]? = some (.cells ((Yb ((Wq n W xs k).map ofQ)).map Zd) 26 false) := fun k => by rw [hF]; exact b2_1 ..
        have hFE : ∀ k, Ext (fun _ => False) G' (F k) := fun k => by rw [hF]; exact e2 ..
        have hFs : ∀ k, (F k).set (G'.length + 1) (.cells ((Yb ((Wq n W xs (k + 1)).map ofQ)).map Zd) 26 false) = F (k + 1) := fun k => by
          simp only [hF]
          rw [show G'.length + 1 = (G' ++ [Blk.ints [0, 1] 26 false]).length by simp, Xn]
        have hFl : ∀ k, (F k).length = G'.length + 2 := fun k => by rw [hF]; simp
        have hF1 : G' ++ [.ints [0, 1] 26 false] ++ [.cells ((Yb (List.replicate n ((0 : Int), (1 : Int)))).map Zd) 26 false] = F 0 := by
          rw [hF]; simp only [Wq, List.map_replicate]; rfl
        have rep := repeat_call (h := G' ++ [.ints [0, 1] 26 false]) (b0 := G'.length) (x := 0) (y := 1) (Zy _ _) (show 1 ≤ n by omega) (show n < 6 by omega)
        rw [hF1, List.length_append, List.length_singleton] at rep
        have q0 : qV ((0 : Int) : Rat) = .agg #[Zd 0, Zd 1] := rfl
        refine Ze fun N23 hN23 => ?_
        simp only [q60_21]
        refine aw_drawR (fun z => z[h.length]? = some (Blk.cells [Zd (n : Nat), v] 86 false)) [(0, 1), (3, 5)] (by kernel_rfl) (by kernel_rfl) (by kernel_rfl) (by kernel_rfl) tG ?_
        simp (maxSteps := 2000000) only [↓dopsR_nil, ↓vdn, vup, List.map_cons, List.map_nil, cond_true, cond_false, aop, Zg, ev, sput, Zf, Nat.reduceBEq, Nat.reduceAdd, Yk, List.nil_append, List.append_nil]
        refine ⟨_, _, (show Yv prog 70 [Zd 0] G' (qV ((0 : Int) : Rat)) from Wu), rfl, ?_⟩
        simp (maxSteps := 2000000) only [q0, litF, tA0]
        refine ⟨Xg tG _, Zd (n : Nat), fun z hz => by simp only [loadT0 hz], _, _, rep, (hFE 0).2 _ (Yj tG) id |>.trans tG, ?_⟩
        refine hN23 [(1, .pointer (some ⟨h.length, 0, none⟩)), (2, .slice none 0 0), (3, out), (4, Zd (s : Nat)), (5, .pointer (some ⟨hp.length, 0, none⟩)), (7, .func (.func 100) #[] #[.pointer (some ⟨hp.length, 0, none⟩)]), (11, x), (13, .slice (some ⟨G'.length + 1, 0, none⟩) n n), (26, .bool false), (51, .bool false)] _ _ ?_ (by simp (maxSteps := 2000000) only [vup, cond_true, cond_false, Nat.reduceBEq])
        clear hN23
        try clear N23
        have g5F : ∀ k, (F k)[hp.length]? = some (.cells [wv] 38 false) := fun k => ((hFE k).2 _ (Yj g5') id).trans g5'
        have howF : ∀ k, OwnSl 3 (F k) wv (castI W) := fun k => how'.ext (S := fun _ => False) (hFE k) (fun _ _ => id)
        refine Zk fun U hU => ?_
        refine Ze fun N24 hN24 => ?_
        simp (maxSteps := 2000000) only [↓Za, ↓Zb, ↓Zc, vup, List.map_cons, List.map_nil, cond_true, cond_false, aop, Zg, ev, sput, Zf, Zi, Nat.reduceBEq, tyf, load1 (g5F 0) Vb, (howF 0).int.len, hli]
        refine hN24 [(1, .pointer (some ⟨h.length, 0, none⟩)), (2, .slice none 0 0), (3, out), (4, Zd (s : Nat)), (5, .pointer (some ⟨hp.length, 0, none⟩)), (7, .func (.func 100) #[] #[.pointer (some ⟨hp.length, 0, none⟩)]), (11, x), (13, .slice (some ⟨G'.length + 1, 0, none⟩) n n), (26, .bool false), (51, .bool false), (83, wv), (84, Zd (W.length : Nat)), (85, .int .i64 0)] _ _ ?_ (by simp (maxSteps := 2000000) only [vup, cond_true, cond_false, Nat.reduceBEq])
        clear hN24
        try clear N24
        refine Zl ?_
        refine Zm fun Qa hQa => ?_
        refine Yh (γ := Nat) (fun k => k ≤ W.length) (fun k => ([(1, .pointer (some ⟨h.length, 0, none⟩)), (2, .slice none 0 0), (3, out), (4, Zd (s : Nat)), (5, .pointer (some ⟨hp.length, 0, none⟩)), (7, .func (.func 100) #[] #[.pointer (some ⟨hp.length, 0, none⟩)]), (11, x), (13, .slice (some ⟨G'.length + 1, 0, none⟩) n n), (26, .bool false), (51, .bool false), (83, wv), (84, Zd (W.length : Nat)), (85, Zd (k : Nat))], F k)) (fun k => W.length - k) 0 (Nat.zero_le _) (by simp (maxSteps := 2000000) only [vup, cond_true, cond_false, Nat.reduceBEq, Int.natCast_zero]) rfl ?_
        rintro k hk
        refine Zm fun Qb hQb => ?_
        simp only [l60_2]
        by_cases hkin : (k : Int) < W.length
        · have hk' : k < W.length := by omega
          have hkc : k < (castI W).length := by omega
          have hw : W.getD k 0 < n := hWlt _ (by rw [List.getD, List.getElem?_eq_getElem hk']; exact List.getElem_mem hk')
          have hxF := (hox.ext (hFE k)).pair
          have hkx : k < (xs.map ofQ).length := by rw [List.length_map]; omega
          have hgx : (xs.map ofQ).getD k (0, 0) = ofQ (xs.getD k 0) := by
            rw [List.getD, List.getElem?_map, List.getElem?_eq_getElem (show k < xs.length by omega), List.getD, List.getElem?_eq_getElem (show k < xs.length by omega)]; rfl
          have hslen : ((Wq n W xs k).map ofQ).length = n := by rw [List.length_map, spreadTo_len]
          have pF := pairSl_cells (hF0 k)
          rw [hslen] at pF
          have hidx : ∀ K : Value → Prop, Yx prog 90 (.slice (some ⟨G'.length + 1, 0, none⟩) n n) (Zd (W.getD k 0 : Nat)) K = K (.pointer (some ⟨G'.length + 1, W.getD k 0 * 2, none⟩)) := fun K => by
            rw [pF.idx el_90 Xw (by rw [hslen]; exact hw), elemP_pair]
          have hst : ∀ K : Zh → Prop, Xf prog (F k) 26 (.pointer (some ⟨G'.length + 1, W.getD k 0 * 2, none⟩)) (.agg #[Zd (xs.getD k 0).num, Zd ((xs.getD k 0).den : Int)]) K = K (F (k + 1)) := fun K => by
            rw [storePC (hF0 k) Wv (by rw [hslen]; exact hw), ← hFs k, Wq, List.map_set]; rfl
          refine Ze fun N25 hN25 => ?_
          simp (maxSteps := 2000000) only [↓Za, ↓Zb, ↓Zc, vup, cond_true, cond_false, aop, Zg, ev, sput, Zf, Zz, Ya, Nat.reduceBEq, hkin]
          refine hN25 [(1, .pointer (some ⟨h.length, 0, none⟩)), (2, .slice none 0 0), (3, out), (4, Zd (s : Nat)), (5, .pointer (some ⟨hp.length, 0, none⟩)), (7, .func (.func 100) #[] #[.pointer (some ⟨hp.length, 0, none⟩)]), (11, x), (13, .slice (some ⟨G'.length + 1, 0, none⟩) n n), (26, .bool false), (51, .bool false), (83, wv), (84, Zd (W.length : Nat)), (85, Zd (k : Nat)), (86, .bool true)] _ _ ?_ (by simp (maxSteps := 2000000) only [vup, cond_true, cond_false, Nat.reduceBEq])
          clear hN25
          try clear N25
          refine Ze fun N26 hN26 => ?_
          simp (maxSteps := 2000000) only [↓Zo, ↓vdn, vup, cond_true, cond_false, Zg, ev, Nat.reduceBEq]
          refine hN26 [(1, .pointer (some ⟨h.length, 0, none⟩)), (2, .slice none 0 0), (3, out), (4, Zd (s : Nat)), (5, .pointer (some ⟨hp.length, 0, none⟩)), (7, .func (.func 100) #[] #[.pointer (some ⟨hp.length, 0, none⟩)]), (11, x), (13, .slice (some ⟨G'.length + 1, 0, none⟩) n n), (26, .bool false), (51, .bool false), (83, wv), (84, Zd (W.length : Nat)), (85, Zd (k : Nat))] _ _ ?_ (by simp (maxSteps := 2000000) only [vup, cond_true, cond_false, Nat.reduceBEq])
          clear hN26
          try clear N26
          refine Zk fun B hB => ?_
          refine Zl ?_
          refine Ze fun N27 hN27 => ?_
          simp (maxSteps := 2000000) only [↓Za, ↓Zb, ↓Zc, vup, cond_true, cond_false, aop, Zg, ev, sput, Zf, Nat.reduceBEq, (howF k).int.idx Wb Xt hkc, (howF k).int.load Xl hkc, castI_getD]
          refine hN27 [(1, .pointer (some ⟨h.length, 0, none⟩)), (2, .slice none 0 0), (3, out), (4, Zd (s : Nat)), (5, .pointer (some ⟨hp.length, 0, none⟩)), (7, .func (.func 100) #[] #[.pointer (some ⟨hp.length, 0, none⟩)]), (11, x), (13, .slice (some ⟨G'.length + 1, 0, none⟩) n n), (14, Zd (k : Nat)), (15, Zd (W.getD k 0 : Nat)), (26, .bool false), (51, .bool false), (83, wv), (84, Zd (W.length : Nat)), (85, Zd (k : Nat))] _ _ ?_ (by simp (maxSteps := 2000000) only [vup, cond_true, cond_false, Nat.reduceBEq])
          clear hN27
          try clear N27
          refine Zj ?_
          simp (maxSteps := 2000000) only [↓Za, ↓Zb, ↓Zc, vup, cond_true, cond_false, aop, Zg, Zn, ev, sput, Zf, Nat.reduceBEq, hxF.idx Vo Xw hkx, hxF.load Wv hkx, hgx, hidx, ofQ, hst]
          refine hB [(1, .pointer (some ⟨h.length, 0, none⟩)), (2, .slice none 0 0), (3, out), (4, Zd (s : Nat)), (5, .pointer (some ⟨hp.length, 0, none⟩)), (7, .func (.func 100) #[] #[.pointer (some ⟨hp.length, 0, none⟩)]), (11, x), (13, .slice (some ⟨G'.length + 1, 0, none⟩) n n), (26, .bool false), (51, .bool false), (83, wv), (84, Zd (W.length : Nat)), (85, Zd (k : Nat))] _ _ ?_ (by simp (maxSteps := 2000000) only [vup, cond_true, cond_false, Nat.reduceBEq])
          clear hB
          try clear B
          refine Zj ?_
          simp (maxSteps := 2000000) only [↓Za, ↓Zb, ↓Zc, vup, cond_true, cond_false, aop, ev, sput, Zf, Zz, Ya, Nat.reduceBEq, add1 (show k < 9223372036854775807 by omega)]
          exact hQb _ _ _ ⟨k + 1, hk', by omega, by simp (maxSteps := 2000000) only [vup, cond_true, cond_false, Nat.reduceBEq], rfl⟩
        have hkk := loopEnd hkin hk
        subst hkk
        refine Ze fun N28 hN28 => ?_
        simp (maxSteps := 2000000) only [↓Za, ↓Zb, ↓Zc, vup, cond_true, cond_false, aop, Zg, ev, sput, Zf, Zz, Ya, Nat.reduceBEq, hkin]
        refine hN28 [(1, .pointer (some ⟨h.length, 0, none⟩)), (2, .slice none 0 0), (3, out), (4, Zd (s : Nat)), (5, .pointer (some ⟨hp.length, 0, none⟩)), (7, .func (.func 100) #[] #[.pointer (some ⟨hp.length, 0, none⟩)]), (11, x), (13, .slice (some ⟨G'.length + 1, 0, none⟩) n n), (26, .bool false), (51, .bool false), (83, wv), (84, Zd (W.length : Nat)), (85, Zd (W.length : Nat)), (86, .bool false)] _ _ ?_ (by simp (maxSteps := 2000000) only [vup, cond_true, cond_false, Nat.reduceBEq])
        clear hN28
        try clear N28
        refine Ze fun N29 hN29 => ?_
        simp (maxSteps := 2000000) only [↓Yn, ↓vdn, vup, cond_true, cond_false, Zg, ev, Nat.reduceBEq]
        refine hQb _ _ _ (hQa _ _ _ ?_)
        simp (maxSteps := 2000000) only [Zg, Zn, if_true]
        refine hU [(1, .pointer (some ⟨h.length, 0, none⟩)), (2, .slice none 0 0), (3, out), (4, Zd (s : Nat)), (5, .pointer (some ⟨hp.length, 0, none⟩)), (7, .func (.func 100) #[] #[.pointer (some ⟨hp.length, 0, none⟩)]), (11, x), (13, .slice (some ⟨G'.length + 1, 0, none⟩) n n), (26, .bool false), (51, .bool false), (86, .bool false)] _ _ ?_ (by simp (maxSteps := 2000000) only [vup, cond_true, cond_false, Nat.reduceBEq])
        clear hU
        try clear U
        -- it is noted
        have hcF := (hcs.ext (hEG'.trans (hFE W.length)))
        obtain ⟨us, hou, heach⟩ := hcF
        have hlen3 := heach.len
        have hcl := cornersTo_len n l (s - 1)
        refine Zj ?_
        simp (maxSteps := 2000000) only [↓Za, ↓Zb, ↓Zc, vup, List.map_cons, List.map_nil, cond_true, cond_false, aop, Zg, Zn, ev, sput, Zf, Zi, Nat.reduceBEq, litV el_88 zero_90 esz_90]
        refine OwnV.app (us := [.slice (some ⟨G'.length + 1, 0, none⟩) n n]) (hou.ext (Ext.app _ _ _)) app_88_88 (.inr ⟨(F W.length).length, 0, none, 1, [.slice (some ⟨G'.length + 1, 0, none⟩) n n], 90, false, rfl, Nat.le_refl _, by simp [view, Blk.view], rfl⟩) (fun w hw => ?_) (by simp; omega) ?_
        · rcases List.mem_append.1 hw with h1 | h1
          · obtain ⟨b, bl, rfl, _⟩ := heach.mem w h1
            exact ⟨rfl, rfl⟩
          · rw [List.mem_singleton.1 h1]; exact ⟨rfl, rfl⟩
        · intro out' G3 ho3 hE3 hb3
          have hol : ∀ b, Yg out = some b → b < (F W.length).length := fun b hb => hou.lt hb
          have hHF := hEp.trans (hEG'.trans (hFE W.length))
          have hFk : Ext (fun _ => False) H G3 := ext_app hHF (H' := F W.length ++ [Blk.cells [.slice (some ⟨G'.length + 1, 0, none⟩) n n] 90 false]) (by simp) (fun z hz => List.getElem?_append_left (by have := hHF.1; omega)) hbo hE3
          have keep : ∀ bl c, (F W.length)[bl]? = some (Blk.cells c 26 false) → G3[bl]? = some (Blk.cells c 26 false) := fun bl c hbl => by
            have hlt := Yj hbl
            rw [hE3.2 bl (by rw [List.length_append]; omega) (fun hc => ?_), List.getElem?_append_left hlt, hbl]
            obtain ⟨c', hc'⟩ := hou.blk hc
            rw [hbl] at hc'
            exact absurd (Blk.cells.inj (Option.some.inj hc')).2.1 (by decide)
          refine goOn _ out' G3 ⟨us ++ [.slice (some ⟨G'.length + 1, 0, none⟩) n n], ho3, ?_⟩ hFk (fun b hb => ?_) (by simp (maxSteps := 2000000) only [vup, cond_true, cond_false, Nat.reduceBEq])
          · rw [hcsucc, hcorner]
            refine Each.app (heach.imp fun w b ⟨bl, q1, q2⟩ => ⟨bl, q1, keep bl _ q2⟩) ⟨⟨G'.length + 1, by rw [spreadTo_len], keep _ _ (hF0 _)⟩, trivial⟩
          · rcases hb3 with h1 | ⟨b', h1, h2⟩
            · exact hbo b (h1 ▸ hb)
            · rw [h1] at hb; cases hb
              rw [List.length_append] at h2
              have := hHF.1; omega
  · have hss := loopEnd hin hs
    subst hss
    refine Ze fun N30 hN30 => ?_
    simp (maxSteps := 2000000) only [↓Za, ↓Zs, ↓Yn, ↓Zb, ↓Zc, ↓vdn, vup, cond_true, cond_false, aop, Zg, ev, sput, Zf, Zz, Ya, Nat.reduceBEq, tyf, tA0, loadT0 t1p, Int.natCast_nonneg, hsh, hin]
    refine hQ2 _ _ _ (hQ _ _ _ ?_)
    simp (maxSteps := 2000000) only [Zg, Zn, Zr, if_true]
    refine hZ [(1, .pointer (some ⟨h.length, 0, none⟩)), (2, .slice none 0 0), (3, out), (4, Zd (2 ^ n : Nat))] _ _ ?_ (by simp (maxSteps := 2000000) only [vup, cond_true, cond_false, Nat.reduceBEq])
    clear hZ
    try clear Z
    refine Zj ?_
    simp (maxSteps := 2000000) only [↓Za, ↓Zs, ↓Zx, ↓Zb, ↓Zc, vup, cond_true, cond_false, aop, Zg, ev, sput, Zf, Nat.reduceBEq, Zr, Xo, tup]
    exact ⟨hE.trans hEp, hcs, fun b hb => by have := hbo b hb; omega⟩
end Go.Proofs.Try.Am

namespace Go.Proofs.Try.Am
open Go.Am
set_option maxRecDepth 100000
end Go.Proofs.Try.Am

namespace Go.Proofs.Try.Am
open Go.Am
set_option maxRecDepth 100000
set_option maxHeartbeats 1000000

theorem cloneF_call [Tabs prog] {h : Zh} {v : Value} {ps : List (Int × Int)} (hv : PairSl h v ps) (hl : ps.length < 1099511627776) : ACall prog 57 [v] h fun r h' => PairSl h' r ps ∧ Ext (fun _ => False) h h' := by
  refine s57_call (by simp) ?_
  have hv' := hv
  rcases hv with ⟨rfl, rfl⟩ | ⟨b, o, sp, cap, c, e, ro, rfl, hc, hb, hx⟩
  · simp (maxSteps := 2000000) only [s57, ↓Za, ↓Zs, ↓Zx, ↓Zb, ↓Zc, ↓vdn, vup, cond_true, cond_false, aop, Zg, Zt, ev, sput, Zf, Zz, Nat.reduceBEq, Zr, Xo, tup, tyf, Option.isSome_some]
    exact ⟨.inl ⟨rfl, rfl⟩, Ext.refl _ _⟩
  · simp (maxSteps := 2000000) only [s57, ↓Za, ↓Zo, ↓Zs, ↓Zx, ↓Zb, ↓Zc, ↓vdn, vup, List.map_cons, List.map_nil, cond_true, cond_false, aop, Zg, Zt, ev, sput, Zf, Zz, Zi, Nat.reduceBEq, Zr, Xo, tup, tyf, Option.isSome_some]
    simp only [Yp, Vo, zero_26, Xw, reps, fillL, mkb, Xc]
    refine And.intro rfl (And.intro (by decide) (And.intro (Nat.zero_le _) ?_))
    refine (hv'.grow [.ints [] 26 false]).copy app_47_47 hl (by rw [List.getElem?_append_right (Nat.le_refl _)]; simp) ?_
    intro r g hr
    exact ⟨hr, by rw [List.append_assoc]; exact Ext.app _ _ _⟩
theorem min8 (n : Nat) : (if (8 : Int) < n then 8 else (n : Int)) = ((min n 8 : Nat) : Int) := by split <;> omega
theorem take_min {α : Type} (l : List α) (k : Nat) : l.take (min l.length k) = l.take k := by
  by_cases h : l.length ≤ k
  · rw [Nat.min_eq_left h, List.take_length, List.take_of_length_le h]
  · rw [Nat.min_eq_right (by omega)]
theorem clone_call [Tabs prog] {h : Zh} {v : Value} {xs : List Int} (hv : IntSl h v xs) (hl : xs.length < 1099511627776) : ACall prog 82 [v] h fun r h' => IntSl h' r xs ∧ Ext (fun _ => False) h h' := by
  refine s82_call (by simp) ?_
  have hv' := hv
  rcases hv with ⟨rfl, rfl⟩ | ⟨b, o, sp, cap, c, e, ro, rfl, hc, hb, hx⟩
  · simp (maxSteps := 2000000) only [s82, ↓Za, ↓Zs, ↓Zx, ↓Zb, ↓Zc, ↓vdn, vup, cond_true, cond_false, aop, Zg, Zt, ev, sput, Zf, Zz, Nat.reduceBEq, Zr, Xo, tup, tyf, Option.isSome_some]
    exact ⟨.inl ⟨rfl, rfl⟩, Ext.refl _ _⟩
  · simp (maxSteps := 2000000) only [s82, ↓Za, ↓Zo, ↓Zs, ↓Zx, ↓Zb, ↓Zc, ↓vdn, vup, List.map_cons, List.map_nil, cond_true, cond_false, aop, Zg, Zt, ev, sput, Zf, Zz, Zi, Nat.reduceBEq, Zr, Xo, tup, tyf, Option.isSome_some]
    simp only [Yp, Wb, zero_3, Xt, reps, fillL, mkb, Xc]
    refine And.intro rfl (And.intro Nat.zero_lt_one (And.intro (Nat.zero_le _) ?_))
    refine (hv'.grow [.ints [] 3 false]).copy app_38_38 hl (by rw [List.getElem?_append_right (Nat.le_refl _)]; simp) ?_
    intro r g hr _
    exact ⟨hr, by rw [List.append_assoc]; exact Ext.app _ _ _⟩
theorem list_call [Tabs prog] {h : Zh} {v : Value} {xs : List Int} (hv : IntSl h v xs) : ACall prog 46 [v] h fun r h' => IntSl h' r (xs.take 8) ∧ Ext (fun _ => False) h h' := by
  refine s46_call (by simp) ?_
  simp (maxSteps := 2000000) only [s46, ↓Za, ↓Zs, ↓Zx, ↓Zb, ↓Zc, vup, List.map_cons, List.map_nil, cond_true, cond_false, aop, Zg, Zt, ev, sput, Zf, Zi, Nat.reduceBEq, Zr, Xo, tup, tyf, hv.len, mmK, Bool.false_eq_true, if_false, gt_iff_lt, min8, Option.map_none, Option.map_some]
  refine hv.pre Wb Xt (Nat.min_le_left _ _) ?_
  intro v' hv'
  rw [take_min] at hv'
  simp (maxSteps := 2000000) only [Yk, List.nil_append, List.append_nil]
  exact clone_call hv' (by simp; omega)

theorem pairs_eq {xs ys : List (Int × Int)} (hl : xs.length = ys.length) (k : Nat) (hk : k ≤ xs.length) (h : ∀ i, i < k → xs.getD i (0, 0) = ys.getD i (0, 0)) (hk2 : k = xs.length) : xs = ys := by
  subst hk2
  apply List.ext_getElem hl
  intro i h1 h2
  have := h i h1
  rwa [List.getD, List.getD, List.getElem?_eq_getElem h1, List.getElem?_eq_getElem h2] at this

theorem s35_callW [Tabs Try.prog] {args : List Value} {h : Zh} {Q : Value → Zh → Prop} (hsz : args.length ≤ 26) (hk : AWS Try.prog 26 s35 (Zr Try.prog [.tmp 4] Q) (Zt 0 args) h) : ACall Try.prog 35 args h Q :=
  Ym Try.func35 rfl (enters_of Try.func35 (by kernel_rfl) rfl) rfl rfl (by decide) s35_strip s35_ok hsz hk
theorem equalF_call [Tabs prog] {h : Zh} {u v : Value} {xs ys : List (Int × Int)} (hu : PairSl h u xs) (hv : PairSl h v ys) (hl : xs.length < 9223372036854775808) : Yv prog 35 [u, v] h (.bool (decide (xs = ys))) := by
  refine s35_callW (by simp) ?_
  simp only [s35]
  refine Ze fun N1 hN1 => ?_
  simp (maxSteps := 2000000) only [↓Za, ↓Zb, ↓Zc, vup, cond_false, aop, Zg, Zt, ev, sput, Zf, Nat.reduceBEq, Nat.reduceAdd]
  refine hN1 [(0, u), (1, v), (4, .bool false)] _ _ ?_ (by simp (maxSteps := 2000000) only [vup, cond_true, cond_false, Nat.reduceBEq])
  clear hN1
  try clear N1
  by_cases hn : xs.length = ys.length
  · have hne : (((xs.length : Nat) : Int) != ((ys.length : Nat) : Int)) = false := by simp [hn]
    refine Ze fun N2 hN2 => ?_
    simp (maxSteps := 2000000) only [↓Za, ↓Zo, ↓Zs, ↓Zx, ↓Zb, ↓Zc, ↓vdn, vup, List.map_cons, List.map_nil, cond_true, cond_false, aop, Zg, ev, sput, Zf, Zz, Ya, Zi, Nat.reduceBEq, Zr, Xo, tup, tyf, hu.len, hv.len, hne]
    refine hN2 [(0, u), (1, v), (4, .bool false)] _ _ ?_ (by simp (maxSteps := 2000000) only [vup, cond_true, cond_false, Nat.reduceBEq])
    clear hN2
    try clear N2
    refine Zk fun Z hZ => ?_
    refine Ze fun N3 hN3 => ?_
    simp (maxSteps := 2000000) only [↓Za, ↓Zb, ↓Zc, vup, List.map_cons, List.map_nil, cond_true, cond_false, aop, Zg, ev, sput, Zf, Zi, Nat.reduceBEq, tyf, hu.len]
    refine hN3 [(0, u), (1, v), (4, .bool false), (11, u), (12, Zd xs.length), (13, .int .i64 0)] _ _ ?_ (by simp (maxSteps := 2000000) only [vup, cond_true, cond_false, Nat.reduceBEq])
    clear hN3
    try clear N3
    refine Zl ?_
    refine Zm fun Q hQ => ?_
    refine Yh (γ := Nat) (fun k => k ≤ xs.length ∧ ∀ i, i < k → xs.getD i (0, 0) = ys.getD i (0, 0))
      (fun k => ([(0, u), (1, v), (4, .bool false), (11, u), (12, Zd xs.length), (13, Zd (k : Nat))], h)) (fun k => xs.length - k) 0 ⟨Nat.zero_le _, fun i hi => by omega⟩ (by simp (maxSteps := 2000000) only [vup, cond_true, cond_false, Nat.reduceBEq, Int.natCast_zero]) rfl ?_
    rintro k ⟨hk, hall⟩
    refine Zm fun Q2 hQ2 => ?_
    simp only [l35_0]
    by_cases hin : (k : Int) < xs.length
    · have hk' : k < xs.length := by omega
      have hky : k < ys.length := by omega
      refine Ze fun N4 hN4 => ?_
      simp (maxSteps := 2000000) only [↓Za, ↓Zb, ↓Zc, vup, cond_true, cond_false, aop, Zg, ev, sput, Zf, Zz, Ya, Nat.reduceBEq, hin]
      refine hN4 [(0, u), (1, v), (4, .bool false), (11, u), (12, Zd xs.length), (13, Zd (k : Nat)), (14, .bool true)] _ _ ?_ (by simp (maxSteps := 2000000) only [vup, cond_true, cond_false, Nat.reduceBEq])
      clear hN4
      try clear N4
      refine Ze fun N5 hN5 => ?_
      simp (maxSteps := 2000000) only [↓Zo, ↓vdn, vup, cond_true, cond_false, Zg, ev, Nat.reduceBEq]
      refine hN5 [(0, u), (1, v), (4, .bool false), (11, u), (12, Zd xs.length), (13, Zd (k : Nat))] _ _ ?_ (by simp (maxSteps := 2000000) only [vup, cond_true, cond_false, Nat.reduceBEq])
      clear hN5
      try clear N5
      refine Zk fun B hB => ?_
      refine Zl ?_
      refine Ze fun N6 hN6 => ?_
      simp (maxSteps := 2000000) only [↓Za, ↓Zb, ↓Zc, vup, cond_true, cond_false, aop, Zg, ev, sput, Zf, Nat.reduceBEq]
      refine hN6 [(0, u), (1, v), (4, .bool false), (5, Zd (k : Nat)), (11, u), (12, Zd xs.length), (13, Zd (k : Nat))] _ _ ?_ (by simp (maxSteps := 2000000) only [vup, cond_true, cond_false, Nat.reduceBEq])
      clear hN6
      try clear N6
      obtain ⟨⟨x, y⟩, hxy⟩ : ∃ p, xs.getD k (0, 0) = p := ⟨_, rfl⟩
      obtain ⟨⟨z, w⟩, hzw⟩ : ∃ p, ys.getD k (0, 0) = p := ⟨_, rfl⟩
      refine Zj ?_
      simp only [q35_6]
      refine aw_cut fun D hD => ?_
      refine Yo [] (by kernel_rfl) (by kernel_rfl) (by kernel_rfl) (by kernel_rfl) ?_
      simp (maxSteps := 2000000) only [↓Zp, ↓vdn, vup, cond_true, cond_false, aop, Zg, ev, sput, Zf, Zz, Ya, Nat.reduceBEq, Nat.reduceAdd, hu.idx Vo Xw hk', hu.load Wv hk', hv.idx Vo Xw hky, hv.load Wv hky, hxy, hzw, Xc, Option.map_some, List.length_cons, List.length_nil, Nat.zero_add, eqF]
      refine hD _ _ ?_
      by_cases he : x = z ∧ y = w
      · obtain ⟨rfl, rfl⟩ := he
        have hb : (([x, y] : List Int) != [x, y]) = false := by simp
        simp (maxSteps := 2000000) only [↓Zo, ↓vdn, vup, cond_true, cond_false, Zg, Zn, ev, Nat.reduceBEq, hb]
        refine hB [(0, u), (1, v), (4, .bool false), (11, u), (12, Zd xs.length), (13, Zd (k : Nat))] _ _ ?_ (by simp (maxSteps := 2000000) only [vup, cond_true, cond_false, Nat.reduceBEq])
        clear hB
        try clear B
        refine Zj ?_
        simp (maxSteps := 2000000) only [↓Za, ↓Zb, ↓Zc, vup, cond_true, cond_false, aop, ev, sput, Zf, Zz, Ya, Nat.reduceBEq, add1 (show k < 9223372036854775807 by omega)]
        refine hQ2 _ _ _ ⟨k + 1, ⟨hk', fun i hi => ?_⟩, by omega, by simp (maxSteps := 2000000) only [vup, cond_true, cond_false, Nat.reduceBEq], rfl⟩
        rcases Nat.lt_or_ge i k with h1 | h1
        · exact hall i h1
        · rw [show i = k by omega, hxy, hzw]
      · have hb : (([x, y] : List Int) != [z, w]) = true := by
          simp only [bne, Bool.not_eq_true', beq_eq_false_iff_ne, ne_eq, List.cons.injEq, and_true]
          exact he
        simp (maxSteps := 2000000) only [↓Za, ↓Zs, ↓Zx, ↓Zb, ↓Zc, ↓vdn, vup, cond_true, cond_false, aop, Zg, Zn, ev, sput, Zf, Nat.reduceBEq, hb]
        refine hQ2 _ _ _ (hQ _ _ _ ?_)
        have hd : decide (xs = ys) = false := by
          rw [decide_eq_false_iff_not]
          rintro rfl
          rw [hxy] at hzw
          exact he (Prod.mk.inj hzw)
        simp (maxSteps := 2000000) only [vup, cond_true, cond_false, Zg, Zn, Nat.reduceBEq, Zr, Xo, tup, hd]
    · obtain rfl : k = xs.length := by omega
      refine Ze fun N7 hN7 => ?_
      simp (maxSteps := 2000000) only [↓Za, ↓Zb, ↓Zc, vup, cond_true, cond_false, aop, Zg, ev, sput, Zf, Zz, Ya, Nat.reduceBEq, hin]
      refine hN7 [(0, u), (1, v), (4, .bool false), (11, u), (12, Zd xs.length), (13, Zd xs.length), (14, .bool false)] _ _ ?_ (by simp (maxSteps := 2000000) only [vup, cond_true, cond_false, Nat.reduceBEq])
      clear hN7
      try clear N7
      refine Ze fun N8 hN8 => ?_
      simp (maxSteps := 2000000) only [↓Yn, ↓vdn, vup, cond_true, cond_false, Zg, ev, Nat.reduceBEq]
      refine hQ2 _ _ _ (hQ _ _ _ ?_)
      simp (maxSteps := 2000000) only [Zg, Zn, Zr, if_true]
      refine hZ [(0, u), (1, v), (4, .bool false), (11, u), (12, Zd xs.length), (13, Zd xs.length), (14, .bool false)] _ _ ?_ (by simp (maxSteps := 2000000) only [vup, cond_true, cond_false, Nat.reduceBEq])
      clear hZ
      try clear Z
      refine Zj ?_
      have hd : decide (xs = ys) = true := by
        rw [decide_eq_true_eq]; exact pairs_eq hn _ (Nat.le_refl _) hall rfl
      simp (maxSteps := 2000000) only [↓Za, ↓Zs, ↓Zx, ↓Zb, ↓Zc, vup, cond_true, cond_false, aop, Zg, ev, sput, Zf, Nat.reduceBEq, Zr, Xo, tup, hd]
  · have hne : (((xs.length : Nat) : Int) != ((ys.length : Nat) : Int)) = true := by
      have : ¬ ((xs.length : Nat) : Int) = ((ys.length : Nat) : Int) := by omega
      simpa [bne] using this
    refine Zj ?_
    have hd : decide (xs = ys) = false := by
      rw [decide_eq_false_iff_not]
      rintro rfl; exact hn rfl
    simp (maxSteps := 2000000) only [↓Za, ↓Zo, ↓Zs, ↓aw_block, ↓Zx, ↓Zb, ↓Zc, ↓vdn, vup, List.map_cons, List.map_nil, cond_true, cond_false, aop, Zg, ev, sput, Zf, Zz, Ya, Zi, Nat.reduceBEq, Zr, Xo, tup, tyf, hu.len, hv.len, hne, hd]
end Go.Proofs.Try.Am

namespace Go.Proofs.Try.Am
open Go.Am Bq
set_option maxRecDepth 100000
set_option maxHeartbeats 2000000

theorem pairSl_shape {h : Zh} {v : Value} {l : List (Int × Int)} (hv : PairSl h v l) : ∃ p n c, v = .slice p n c := by
  rcases hv with ⟨rfl, _⟩ | ⟨b, o, sp, cap, c, e, ro, rfl, _⟩
  · exact ⟨_, _, _, rfl⟩
  · exact ⟨_, _, _, rfl⟩
theorem bldT {n : Int} {p : Option Addr} {m c : Nat} {K : Value → Prop} : Vn prog 86 [(0, Zd n), (1, .slice p m c)] K = K (.agg #[Zd n, .slice p m c]) := by
  simp [Vn, zero_86, fillL, pl_86_0, pl_86_1, Wr, cellsOf, Ye]
theorem storeT {h : Zh} {b : Nat} {n : Int} {p : Option Addr} {m k : Nat} {e : TypeId} {c : List Value} {K : Zh → Prop} (hb : h[b]? = some (.cells c e false)) (hc : c.length = 2) : Xf prog h 86 (.pointer (some ⟨b, 0, none⟩)) (.agg #[Zd n, .slice p m k]) K = K (h.set b (.cells [Zd n, .slice p m k] e false)) :=
  storeA (vs := [Zd n, .slice p m k]) hb (by rw [shp_86]; rfl) rfl (by rw [hc]; rfl)
theorem loadT {h : Zh} {b : Nat} {n : Int} {v : Value} {K : Value → Prop} (hb : h[b]? = some (.cells [Zd n, v] 86 false)) : Xm prog h 86 (.pointer (some ⟨b, 0, none⟩)) K = K (.agg #[Zd n, v]) :=
  loadA hb (by rw [shp_86]; rfl)

/-- What Sound hands back. -/
def SoundIs (n : Int) (l : List (Int × Int)) (h' : Zh) (x : Value) (e : Int) : Prop :=
  if Vm n l = true then (match cornersB n.toNat l with | [] => x = .slice none 0 0 ∧ e = 5 | c :: _ => e = 0 ∧ BelAt h' x c) else x = .slice none 0 0 ∧ e = 2
theorem s36_callW [Tabs Try.prog] {args : List Value} {h : Zh} {Q : Value → Zh → Prop} (hsz : args.length ≤ 22) (hk : AWS Try.prog 22 s36 (Zr Try.prog [.tmp 4, .tmp 5] Q) (Zt 0 args) h) : ACall Try.prog 36 args h Q :=
  Ym Try.func36 rfl (enters_of Try.func36 (by kernel_rfl) rfl) rfl rfl (by decide) s36_strip s36_ok hsz hk
theorem sound_call [Tabs prog] {h : Zh} {n : Int} {v : Value} {l : List (Int × Int)} (hv : PairSl h v l) (hl : l.length < 9223372036854775808) (ht : Vm n l = true → TameAll n.toNat l) :
    ACall prog 36 [Zd n, v] h fun r h' => Ext (fun _ => False) h h' ∧ ∃ x e, r = .tuple #[x, .int .i64 e] ∧ SoundIs n l h' x e := by
  obtain ⟨p, m, c, rfl⟩ := pairSl_shape hv
  obtain ⟨H, hH⟩ : ∃ H, H = h ++ [Blk.cells [Zd n, .slice p m c] 86 false] := ⟨_, rfl⟩
  have hE : Ext (fun _ => False) h H := by rw [hH]; exact Ext.app _ _ _
  have b6 : H[h.length]? = some (.cells [Zd n, .slice p m c] 86 false) := by rw [hH]; exact Zy _ _
  have hvH := hv.ext hE
  refine s36_callW (by simp) ?_
  simp only [s36]
  refine Ze fun N1 hN1 => ?_
  simp (maxSteps := 2000000) only [↓Za, ↓Zb, ↓Zc, vup, cond_false, aop, Zg, Zt, ev, sput, Zf, Nat.reduceBEq, Nat.reduceAdd]
  refine hN1 [(0, Zd n), (1, .slice p m c), (4, .slice none 0 0), (5, .int .i64 0)] _ _ ?_ (by simp (maxSteps := 2000000) only [vup, cond_true, cond_false, Nat.reduceBEq])
  clear hN1
  try clear N1
  refine Ze fun N2 hN2 => ?_
  simp (maxSteps := 2000000) only [↓Za, ↓Zb, ↓Zc, vup, List.map_cons, List.map_nil, cond_true, cond_false, aop, Zg, ev, sput, Zf, Nat.reduceBEq, tyf, bldT, Xe, Yr, storeT (Zy h (.cells [.int .i64 0, .slice none 0 0] 86 false)) rfl, Xn]
  rw [← hH]
  refine hN2 [(4, .slice none 0 0), (5, .int .i64 0), (6, .pointer (some ⟨h.length, 0, none⟩))] _ _ ?_ (by simp (maxSteps := 2000000) only [vup, cond_true, cond_false, Nat.reduceBEq])
  clear hN2
  try clear N2
  refine Zk fun M hM => ?_
  refine Ze fun N3 hN3 => ?_
  simp (maxSteps := 2000000) only [↓Za, ↓Zb, ↓Zc, vup, List.map_cons, List.map_nil, cond_true, cond_false, aop, Zg, ev, sput, Zf, unK, Nat.reduceBEq, Yk, List.nil_append, List.append_nil, loadT b6]
  refine (valid_call hvH hl).mono ?_
  rintro _ H ⟨rfl, rfl⟩
  refine hN3 [(4, .slice none 0 0), (5, .int .i64 0), (6, .pointer (some ⟨h.length, 0, none⟩)), (13, .bool (!Vm n l))] _ _ ?_ (by simp (maxSteps := 2000000) only [vup, cond_true, cond_false, Nat.reduceBEq])
  clear hN3
  try clear N3
  cases hval : Vm n l with
  | false =>
    refine Wf rfl ?_
    refine Zj ?_
    simp (maxSteps := 2000000) only [↓Za, ↓Zs, ↓Zx, ↓Zb, ↓Zc, vup, cond_true, cond_false, aop, Zg, ev, sput, Zf, Nat.reduceBEq, Zr, Xo, tup]
    exact ⟨hE, _, _, rfl, by rw [SoundIs, if_neg (by simp [hval])]; exact ⟨rfl, rfl⟩⟩
  | true =>
    refine Xa rfl ?_
    refine Zj ?_
    simp (maxSteps := 2000000) only [↓Zo, vup, Zg]
    refine hM [(4, .slice none 0 0), (5, .int .i64 0), (6, .pointer (some ⟨h.length, 0, none⟩))] _ _ ?_ (by simp (maxSteps := 2000000) only [vup, cond_true, cond_false, Nat.reduceBEq])
    clear hM
    try clear M
    have hn : n = (n.toNat : Int) := by
      simp only [Vm, Bool.and_eq_true, decide_eq_true_eq] at hval; omega
    have hcor := corners_call (n := n.toNat) hvH (by rw [← hn]; exact hval) (ht hval)
    rw [← hn] at hcor
    refine Ze fun N4 hN4 => ?_
    simp (maxSteps := 2000000) only [↓Za, ↓Zb, ↓Zc, vup, List.map_cons, List.map_nil, cond_true, cond_false, aop, Zg, ev, sput, Zf, Nat.reduceBEq, Yk, List.nil_append, List.append_nil, loadT b6]
    refine (hcor).mono ?_
    rintro r H1 ⟨hE1, ⟨ws, hor, heach⟩, hb⟩
    refine hN4 [(4, .slice none 0 0), (5, .int .i64 0), (6, .pointer (some ⟨h.length, 0, none⟩)), (7, r)] _ _ ?_ (by simp (maxSteps := 2000000) only [vup, cond_true, cond_false, Nat.reduceBEq])
    clear hN4
    try clear N4
    have hEE := hE.trans hE1
    have hlen := heach.len
    refine Zj ?_
    have his : ∀ x e, SoundIs n l H1 x e ↔ (match cornersB n.toNat l with | [] => x = .slice none 0 0 ∧ e = 5 | c :: _ => e = 0 ∧ BelAt H1 x c) := fun x e => by rw [SoundIs, if_pos hval]
    cases hc : cornersB n.toNat l with
    | nil =>
      rw [hc] at hlen heach
      have h0 : (((ws.length : Nat) : Int) == 0) = true := by simp [hlen]
      simp (maxSteps := 2000000) only [↓Za, ↓Zo, ↓Zs, ↓Zx, ↓Zb, ↓Zc, ↓vdn, vup, List.map_cons, List.map_nil, cond_true, cond_false, aop, Zg, ev, sput, Zf, Zz, Ya, Zi, Nat.reduceBEq, Zr, Xo, tup, tyf, hor.val.len, h0]
      exact ⟨hEE, _, _, rfl, (his _ _).2 (by rw [hc]; exact ⟨rfl, rfl⟩)⟩
    | cons c0 cs =>
      rw [hc] at hlen heach
      have hpos : 0 < ws.length := by rw [hlen]; simp
      have h0 : (((ws.length : Nat) : Int) == 0) = false := beq_eq_false_iff_ne.2 (by omega)
      have hi0 : ∀ K : Value → Prop, Yx prog 88 r (.int .i64 0) K = K (Vf r 1 0) := fun K => by
        have := hor.val.idx el_88 esz_90 (k := .i64) hpos K
        simpa using this
      simp (maxSteps := 2000000) only [↓Za, ↓Zo, ↓Zs, ↓Zx, ↓Zb, ↓Zc, ↓vdn, vup, List.map_cons, List.map_nil, cond_true, cond_false, aop, Zg, ev, sput, Zf, Zz, Ya, Zi, Nat.reduceBEq, Zr, Xo, tup, tyf, hor.val.len, h0, hi0, hor.val.load shp_90 hpos]
      have hbel := heach.get undef [] (k := 0) (by simp)
      exact ⟨hEE, _, _, rfl, (his _ _).2 (by rw [hc]; exact ⟨rfl, hbel⟩)⟩

theorem s21_callW [Tabs Try.prog] {args : List Value} {h : Zh} {Q : Value → Zh → Prop} (hsz : args.length ≤ 18) (hk : AWS Try.prog 18 s21 (Zr Try.prog [.tmp 0] Q) (Zt 0 args) h) : ACall Try.prog 21 args h Q :=
  Ym Try.func21 rfl (enters_of Try.func21 (by kernel_rfl) rfl) rfl rfl (by decide) s21_strip s21_ok hsz hk
theorem awake_call [Tabs prog] {h : Zh} : Yv prog 21 [] h (.bool true) := by
  refine ACall.forget (Low.bool _) ?_
  refine s21_callW (by simp) ?_
  simp only [s21]
  have bldB : ∀ {x y : Int} {K : Value → Prop}, Vn prog 92 [(0, Zd x), (1, Zd y)] K = K (.agg #[Zd x, Zd y]) := fun {x y K} => by
    simp [Vn, zero_92, fillL, pl_92_0, pl_92_1, Wr, cellsOf, Ye]
  have lit : ∀ {K : Value → Zh → Prop}, Yp prog h 30 1 [(0, .agg #[Zd 1, Zd 6])] K = K (.slice (some ⟨h.length, 0, none⟩) 1 1) (h ++ [.ints [1, 6] 92 false]) := fun {K} => by
    simp only [Yp, el_30, zero_92, esz_92, reps, fillL, mkb, Wr, cellsOf, List.length_cons, List.length_nil, Nat.zero_add, Nat.zero_mul, Ye]
    refine propext ⟨fun h => ?_, fun h => ⟨trivial, by decide, by decide, ?_⟩⟩
    · simpa [Xc] using h.2.2.2
    · simpa [Xc] using h
  have hp : PairSl (h ++ [.ints [1, 6] 92 false]) (.slice (some ⟨h.length, 0, none⟩) 1 1) [(1, 6)] := .inr ⟨h.length, 0, none, 1, [Zd 1, Zd 6], 92, false, rfl, Nat.le_refl _, by simp [view, Blk.view], fun i hi => by
    obtain rfl : i = 0 := by simpa using hi
    exact ⟨rfl, rfl⟩⟩
  have hv : Vm 2 [(1, 6)] = true := by decide
  refine Ze fun N5 hN5 => ?_
  simp (maxSteps := 2000000) only [↓Za, ↓Zb, ↓Zc, vup, aop, Zg, Zt, ev, sput, Zf]
  refine hN5 [(0, .bool false)] _ _ ?_ (by simp (maxSteps := 2000000) only [vup, cond_true, Nat.reduceBEq])
  clear hN5
  try clear N5
  refine Ze fun N6 hN6 => ?_
  simp (maxSteps := 2000000) only [↓Za, ↓Zb, ↓Zc, vup, List.map_cons, List.map_nil, cond_true, cond_false, aop, Zg, ev, sput, Zf, Nat.reduceBEq, bldB, lit, Yk, List.nil_append, List.append_nil]
  refine (sound_call (n := 2) hp (by decide) fun _ => tame_awake).mono ?_
  rintro r h1 ⟨hE1, x, e, rfl, hs⟩
  rw [SoundIs, if_pos hv, show (2 : Int).toNat = 2 from rfl, corners_awake] at hs
  simp only at hs
  obtain ⟨rfl, bl, rfl, hbl⟩ := hs
  have hE : Ext (fun _ => False) h h1 := (Ext.app _ _ _).trans hE1
  have px := pairSl_cells hbl
  have hlist : ([1 / 2, 1 / 2] : List Rat).map ofQ = [(1, 2), (1, 2)] := by decide +kernel
  rw [hlist] at px
  simp (maxSteps := 2000000) only [extr_20, extr_21, Nat.reduceAdd, List.length_cons, List.length_nil]
  refine hN6 [(0, .bool false), (1, .slice (some ⟨bl, 0, none⟩) 2 2), (2, .int .i64 0)] _ _ ?_ (by simp (maxSteps := 2000000) only [vup, cond_true, cond_false, Nat.reduceBEq])
  clear hN6
  try clear N6
  have lit2 : ∀ {K : Value → Zh → Prop}, Yp prog h1 47 2 [(0, .agg #[Zd 1, Zd 2]), (1, .agg #[Zd 1, Zd 2])] K = K (.slice (some ⟨h1.length, 0, none⟩) 2 2) (h1 ++ [.ints [1, 2, 1, 2] 26 false]) := fun {K} => by
    simp [Yp, Vo, zero_26, Xw, reps, fillL, mkb, Wr, cellsOf, Ye, Xc]
  have p2 : PairSl (h1 ++ [.ints [1, 2, 1, 2] 26 false]) (.slice (some ⟨h1.length, 0, none⟩) 2 2) [(1, 2), (1, 2)] := .inr ⟨h1.length, 0, none, 2, [Zd 1, Zd 2, Zd 1, Zd 2], 26, false, rfl, Nat.le_refl _, by simp [view, Blk.view], fun i hi => by
    have : i = 0 ∨ i = 1 := by simp at hi; omega
    rcases this with rfl | rfl <;> exact ⟨rfl, rfl⟩⟩
  have eq := equalF_call (px.ext (Ext.app _ _ _)) p2 (by decide)
  refine Zj ?_
  simp (maxSteps := 2000000) only [↓Za, ↓Zs, ↓Zx, ↓Zb, ↓Zc, ↓vdn, vup, List.map_cons, List.map_nil, cond_true, cond_false, aop, Zg, ev, sput, Zf, Zz, Ya, Nat.reduceBEq, Int.reduceBEq, Zr, Xo, tup, Yk, List.nil_append, List.append_nil, bldF, lit2]
  refine (eq).mono ?_
  rintro _ _ ⟨rfl, rfl⟩
  simp (maxSteps := 2000000) only [vup]
  exact hE.trans (Ext.app _ _ _)
end Go.Proofs.Try.Am

namespace Go.Proofs.Try.Am
open Go.Am Bq
set_option maxRecDepth 100000
set_option maxHeartbeats 4000000

theorem race_take {xs ys : List Int} (h8 : raceB (xs.take 8) (ys.take 8) = true) : xs.take 8 = xs ∧ ys.take 8 = ys := by
  have r := race_of h8
  have l1 := r.len
  have l2 := r.eq
  rw [List.length_take] at l1 l2
  rw [List.length_take] at l2
  exact ⟨List.take_of_length_le (by omega), List.take_of_length_le (by omega)⟩
end Go.Proofs.Try.Am

namespace Go.Proofs.Try.Am
open Go.Am Bq
set_option maxRecDepth 100000
set_option maxHeartbeats 4000000

end Go.Proofs.Try.Am

namespace Bq
section
variable {f b : List (Int × Int)} (c : Chn (f ++ b)) (hl : f.length = b.length)
include c hl
end
end Bq

namespace Go.Proofs.Try.Am
open Go.Am Bq
set_option maxRecDepth 100000
set_option maxHeartbeats 4000000

theorem InR.app {f b : List (Int × Int)} (h1 : InR f) (h2 : InR b) : InR (f ++ b) := fun p hp => (List.mem_append.1 hp).elim (h1 p) (h2 p)

theorem fA1o {b o : Nat} {K : Value → Prop} : Yu prog 26 (.pointer (some ⟨b, o, none⟩)) 1 K = K (.pointer (some ⟨b, o + 1, none⟩)) := by
  simp [Yu, fld_26_1, Xt]
theorem pairFlds {h : Zh} {v : Value} {ps : List (Int × Int)} {i : Nat} (hv : PairSl h v ps) (hi : i < ps.length) : ∃ p0 p1 : Value, (∀ K : Value → Prop, Yx prog 47 v (Zd (i : Nat)) K = K p0) ∧ (∀ K : Value → Prop, Yu prog 26 p0 0 K = K p0) ∧ (∀ K : Value → Prop, Yu prog 26 p0 1 K = K p1) ∧
    (∀ K : Value → Prop, Xm prog h 3 p0 K = K (Zd (ps.getD i (0, 0)).1)) ∧ (∀ K : Value → Prop, Xm prog h 3 p1 K = K (Zd (ps.getD i (0, 0)).2)) := by
  have hidx := fun K => hv.idx Vo Xw (k := .i64) hi K
  rcases hv with ⟨rfl, rfl⟩ | ⟨b, o, sp, cap, c, e', ro, rfl, _, hvw, hc⟩
  · simp at hi
  · obtain ⟨h1, h2⟩ := hc i hi
    refine ⟨.pointer (some ⟨b, o + i * 2, none⟩), .pointer (some ⟨b, o + i * 2 + 1, none⟩), hidx, fun K => fA0o, fun K => fA1o, fun K => ?_, fun K => ?_⟩
    · simp only [Xm, Xl]; exact view_cell hvw h1
    · simp only [Xm, Xl]; exact view_cell hvw h2
end Go.Proofs.Try.Am

namespace Go.Proofs.Try.Am
open Go.Am Bq
set_option maxRecDepth 100000
set_option maxHeartbeats 4000000

theorem chn_inR {ps : List (Int × Int)} (c : Chn ps) : InR ps := fun p hp => by
  have h1 := c.ok hp
  have h2 := c.le p hp
  simp only [okP, Bool.and_eq_true, decide_eq_true_eq] at h1
  omega
/-- What is asked of a horse. -/
theorem best_fact {xs ys : List Int} (r : RaceP xs ys) {L : List Nat} {k : Nat} (gp : GrowP xs ys L k) {i : Nat} (hi : i < xs.length) {ps : List (Int × Int)} (hps : Wo xs ys L (gK xs ys L k) k = ps) {q : Rat} (hq : worthQ ys ps i = q) {c o : Int} (hc : xs.getD i 0 = c) (ho : ys.getD i 0 = o) :
    q.den ≤ 332640 ∧ 0 ≤ q.num ∧ q.num ≤ 12 * (q.den : Int) ∧ c * o * (q.den : Int) ≤ 12 * q.num ∧ (0 < (ps.getD i (0, 0)).1 → c * o * (q.den : Int) = 12 * q.num) ∧ (q.num = 0 → c ≤ 0) ∧ (c * o).natAbs ≤ 144 := by
  subst hps
  rw [growL_worth r gp hi] at hq
  obtain ⟨y, y0, y1, rQ, rK⟩ := gK_rp r gp.perm gp.le gp.cond
  obtain ⟨u0, u1⟩ := gK_unit r gp
  have pa := r.a i hi
  have pb := r.b i (by have := r.eq; omega)
  rw [hc] at pa
  rw [ho] at pb
  have rV : Rp 12 (c * o) (gVv xs ys i) := by rw [gVv, hc, ho]; exact Rp.of_frac (N := 12) (by decide) (c * o)
  have co0 : 0 ≤ c * o := Int.mul_nonneg pa.1 (by omega)
  have co1 : c * o ≤ 144 := by
    have := Int.mul_le_mul pa.2 pb.2 (by omega) (by decide)
    omega
  have z : Rp 12 0 (0 : Rat) := ⟨by decide, by simp⟩
  have t : Rp 12 144 (12 : Rat) := ⟨by decide, by decide +kernel⟩
  have v0 : 0 ≤ gVv xs ys i := by rw [← Rat.not_lt, rV.lt z]; omega
  have v1 : gVv xs ys i ≤ 12 := by rw [← Rat.not_lt, t.lt rV]; omega
  have hd : q.den ≤ 332640 := by
    rw [← hq]; split
    · exact Nat.le_trans rV.den_le (by decide)
    · exact Nat.le_trans rK.den_le (by omega)
  have hq0 : 0 ≤ q := by rw [← hq]; split <;> assumption
  have hq12 : q ≤ 12 := by
    rw [← hq]; split
    · exact v1
    · exact Rat.le_trans u1 (by decide)
  have rq := Rp.own q
  have e1 := rV.up q.den q.den_pos
  have e2 := rq.up 12 (by decide)
  rw [Nat.mul_comm] at e2
  have hvq : gVv xs ys i ≤ q := by
    rw [← hq]
    rcases tk_cases r gp hi with ⟨h1, h2⟩ | ⟨h1, h2⟩
    · rw [if_pos h1]; exact Rat.le_refl
    · rw [h1, if_neg (by simp)]; exact h2
  have n0 : 0 ≤ q.num := Rat.num_nonneg.2 hq0
  refine ⟨hd, n0, ?_, ?_, ?_, ?_, by omega⟩
  · have := (Rp.up ⟨(by decide : 0 < 1), by simp⟩ q.den q.den_pos : Rp (1 * q.den) (12 * q.den) (12 : Rat))
    rw [Nat.one_mul] at this
    rw [← Rat.not_lt, this.lt rq] at hq12
    omega
  · rw [← Rat.not_lt, e2.lt e1] at hvq
    omega
  · intro hs
    have hg : (Wo xs ys L (gK xs ys L k) k).getD i (0, 0) = ofQ (Vg xs ys L (gK xs ys L k) k i) := by
      rw [List.getD, Wo, List.getElem?_map, List.getElem?_range hi]; rfl
    rw [hg, ofQ] at hs
    cases hb : (tkS L k).testBit i with
    | false =>
      rw [Vg, hb, if_neg (by simp)] at hs
      exact absurd hs (by decide)
    | true =>
      rw [hb, if_pos rfl] at hq
      rw [hq] at e1
      have h1 := e1.2
      have h2 := e2.2
      rw [h1] at h2
      have h3 : c * o * (q.den : Int) = q.num * 12 := by exact_mod_cast h2
      omega
  · intro hn
    have hz : q = 0 := Rat.num_eq_zero.1 hn
    rw [hz] at hvq
    rw [← Rat.not_lt, z.lt rV] at hvq
    rcases Int.lt_or_le 0 c with h | h
    · have := Int.mul_pos h (show 0 < o by omega)
      omega
    · exact h

end Go.Proofs.Try.Am

namespace Go.Proofs.Try.Am
open Go.Am Bq
set_option maxRecDepth 100000
set_option maxHeartbeats 4000000

theorem kept_taken {xs ys : List Int} (r : RaceP xs ys) {L : List Nat} {k : Nat} (gp : GrowP xs ys L k) {i : Nat} (hi : i < xs.length) {ps : List (Int × Int)} (hps : Wo xs ys L (gK xs ys L k) k = ps) :
    ((tkS L k).testBit i = true → 0 < (ps.getD i (0, 0)).1) ∧ ((tkS L k).testBit i = false → (ps.getD i (0, 0)).1 = 0 ∧ worthQ ys ps i = gK xs ys L k) := by
  subst hps
  have hg : (Wo xs ys L (gK xs ys L k) k).getD i (0, 0) = ofQ (Vg xs ys L (gK xs ys L k) k i) := by
    rw [List.getD, Wo, List.getElem?_map, List.getElem?_range hi]; rfl
  rw [hg]
  refine ⟨fun hb => ?_, fun hb => ⟨?_, ?_⟩⟩
  · have h1 := (growQ_taken r gp hi hb).2
    have h2 : 0 ≤ (Vg xs ys L (gK xs ys L k) k i).num := Rat.num_nonneg.2 (Rat.le_of_lt h1)
    have h3 : (Vg xs ys L (gK xs ys L k) k i).num ≠ 0 := fun h => by
      rw [Rat.num_eq_zero.1 h] at h1; exact absurd h1 (by decide)
    simp only [ofQ]; omega
  · rw [Vg, hb, if_neg (by simp)]; rfl
  · rw [growL_worth r gp hi, hb, if_neg (by simp)]

theorem bldK {K : Value → Prop} : Vn prog 26 [(1, Zd 1)] K = K (.agg #[Zd 0, Zd 1]) := by
  simp [Vn, zero_26, fillL, pl_26_0, pl_26_1, Wr, cellsOf, Ye]

theorem s16_callW [Tabs Try.prog] {args : List Value} {h : Zh} {Q : Value → Zh → Prop} (hsz : args.length ≤ 201) (hk : AWS Try.prog 201 s16 (Zr Try.prog [.tmp 4] Q) (Zt 0 args) h) : ACall Try.prog 16 args h Q :=
  Ym Try.func16 rfl (enters_of Try.func16 (by kernel_rfl) rfl) rfl rfl (by decide) s16_strip s16_ok hsz hk
theorem law_kept [Tabs prog] {h : Zh} {u v : Value} {xs ys : List Int} (hu : IntSl h u xs) (hlx : xs.length < 9223372036854775808) (_hxx : ∀ x ∈ xs, -(2 ^ 63) ≤ x ∧ x < 2 ^ 63) (hv : IntSl h v ys) (hly : ys.length < 9223372036854775808) (_hxy : ∀ x ∈ ys, -(2 ^ 63) ≤ x ∧ x < 2 ^ 63) :
    ACall prog 16 [u, v] h fun r _ => r = .bool true := by
  refine s16_callW (by simp) ?_
  simp only [s16]
  refine Ze fun N1 hN1 => ?_
  simp (maxSteps := 2000000) only [↓Za, ↓Zb, ↓Zc, vup, cond_false, aop, Zg, Zt, ev, sput, Zf, Nat.reduceBEq, Nat.reduceAdd]
  refine hN1 [(0, u), (1, v), (4, .bool false)] _ _ ?_ (by simp (maxSteps := 2000000) only [vup, cond_true, cond_false, Nat.reduceBEq])
  clear hN1
  try clear N1
  refine Ze fun N2 hN2 => ?_
  simp (maxSteps := 2000000) only [↓Za, ↓Zb, ↓Zc, vup, List.map_cons, List.map_nil, cond_true, cond_false, aop, Zg, ev, sput, Zf, Nat.reduceBEq, Yk, List.nil_append, List.append_nil]
  refine (list_call hu).mono ?_
  rintro u1 h1 ⟨hu1, hE1⟩
  refine (list_call (Xq hv hE1)).mono ?_
  rintro u2 h2 ⟨hu2, hE2⟩
  refine (progGrow_call (Xq hu1 hE2) hu2 (by rw [List.length_take]; omega) (by rw [List.length_take]; omega)).mono ?_
  rintro r H ⟨hE4, yes, no⟩
  have hE : Ext (fun _ => False) h H := (hE1.trans hE2).trans hE4
  have huH := Xq hu hE
  have hvH := Xq hv hE
  have e00 : ((0 : Int) != 0) = false := rfl
  have e20 : ((2 : Int) != 0) = true := rfl
  have e22 : ((2 : Int) == 2) = true := rfl
  cases hr : raceB xs ys with
  | true =>
    have rc := race_of hr
    have rl := rc.len
    have re := rc.eq
    have t1 : xs.take 8 = xs := List.take_of_length_le (by omega)
    have t2 : ys.take 8 = ys := List.take_of_length_le (by omega)
    rw [t1, t2] at yes
    obtain ⟨L, k, s, gp, rfl, hsl⟩ := yes hr
    have hst := growL_st rc gp
    have bf := fun i (hi : i < xs.length) => best_fact rc gp hi rfl rfl rfl rfl
    have kt := fun i (hi : i < xs.length) => kept_taken rc gp hi rfl
    have hsum := growL_sum rc gp
    have kab := kAB_rp rc gp
    have kle := fun i (hi : i ≤ xs.length) => kAB_le rc gp hi
    have kpr := kPs_rp rc gp
    have kz := kept_zero rc gp
    have ke := kept_eq rc gp
    have u01 := gK_unit rc gp
    have kden : (gK xs ys L k).den ≤ 332640 := by
      obtain ⟨y, y0, y1, rQ, rK⟩ := gK_rp rc gp.perm gp.le gp.cond
      exact Nat.le_trans rK.den_le (by omega)
    obtain ⟨ps, hps⟩ : ∃ ps, Wo xs ys L (gK xs ys L k) k = ps := ⟨_, rfl⟩
    have hpl : ps.length = xs.length := by rw [← hps]; simp [Wo]
    rw [hps] at hst hsl bf kt hsum
    obtain ⟨T, hT⟩ : ∃ T, tkS L k = T := ⟨_, rfl⟩
    obtain ⟨K, hK⟩ : ∃ K, gK xs ys L k = K := ⟨_, rfl⟩
    rw [hT] at kab kle kpr kz ke
    simp only [hT, hK] at kt
    rw [hK] at hsum kz ke u01 kden
    obtain ⟨hc, _⟩ := st_of hst
    have hir := chn_inR hc
    simp (maxSteps := 2000000) only [extr_20, extr_21]
    refine hN2 [(0, u), (1, v), (4, .bool false), (5, s), (6, .int .i64 0)] _ _ ?_ (by simp (maxSteps := 2000000) only [vup, cond_true, cond_false, Nat.reduceBEq])
    clear hN2
    try clear N2
    refine Zk fun M hM => ?_
    refine Ze fun N3 hN3 => ?_
    simp (maxSteps := 2000000) only [↓Za, ↓Zb, ↓Zc, ↓vdn, vup, List.map_cons, List.map_nil, cond_true, cond_false, aop, Zg, ev, sput, Zf, Zz, Ya, unK, Nat.reduceBEq, Yk, List.nil_append, List.append_nil, e00]
    refine (rrace_call huH hvH (by omega) (by omega)).mono ?_
    rintro _ H ⟨rfl, rfl⟩
    simp (maxSteps := 2000000) only [vup, hr]
    refine hN3 [(0, u), (1, v), (4, .bool false), (5, s), (6, .int .i64 0), (36, .bool false)] _ _ ?_ (by simp (maxSteps := 2000000) only [vup, cond_true, cond_false, Nat.reduceBEq])
    clear hN3
    try clear N3
    refine Xa rfl ?_
    refine Zj ?_
    simp (maxSteps := 2000000) only [↓Zo, Zg]
    refine hM [(0, u), (1, v), (4, .bool false), (5, s), (6, .int .i64 0)] _ _ ?_ (by simp (maxSteps := 2000000) only [vup, cond_true, cond_false, Nat.reduceBEq])
    clear hM
    try clear M
    refine Ze fun N4 hN4 => ?_
    simp (maxSteps := 2000000) only [↓Za, ↓Zb, ↓Zc, vup, List.map_cons, List.map_nil, cond_true, cond_false, aop, Zg, ev, sput, Zf, Nat.reduceBEq, Yk, List.nil_append, List.append_nil]
    refine (list_call huH).mono ?_
    rintro u3 h3 ⟨hu3, hE5⟩
    refine (list_call (Xq hvH hE5)).mono ?_
    rintro u4 h4 ⟨hu4, hE6⟩
    refine (cloneF_call (hsl.ext (hE5.trans hE6)) (by omega)).mono ?_
    rintro u5 h5 ⟨hu5, hE7⟩
    rw [t1] at hu3
    rw [t2] at hu4
    refine (progWorth_call (Xq hu3 (hE6.trans hE7)) (Xq hu4 hE7) hu5 (by omega) (by omega) (by omega) hir).mono ?_
    rintro r2 H2 ⟨hE8, yes2, _⟩
    obtain ⟨w, rfl, hwl⟩ := yes2 ⟨hr, hpl, hst⟩
    have hEF : Ext (fun _ => False) H H2 := (hE5.trans hE6).trans (hE7.trans hE8)
    have hu6 := Xq huH hEF
    have hv6 := Xq hvH hEF
    have hs6 := hsl.ext hEF
    obtain ⟨ws, hws⟩ : ∃ ws, worthL ys ps ps.length = ws := ⟨_, rfl⟩
    have hwsl : ws.length = xs.length := by rw [← hws]; simp [worthL, hpl]
    have hwget : ∀ i, i < xs.length → ws.getD i (0, 0) = ((worthQ ys ps i).num, ((worthQ ys ps i).den : Int)) := fun i hi => by
      rw [← hws, List.getD, worthL, List.getElem?_map, List.getElem?_range (by omega)]; rfl
    rw [hws] at hwl
    clear hE5 hE6 hE7 hE8 hu3 hu4 hu5 yes2
    simp (maxSteps := 2000000) only [extr_20, extr_21]
    refine hN4 [(0, u), (1, v), (4, .bool false), (5, s), (6, .int .i64 0), (7, w), (8, .int .i64 0)] _ _ ?_ (by simp (maxSteps := 2000000) only [vup, cond_true, cond_false, Nat.reduceBEq])
    clear hN4
    try clear N4
    refine Zk fun M hM => ?_
    refine Ze fun N5 hN5 => ?_
    simp (maxSteps := 2000000) only [↓Za, ↓Zc, ↓vdn, vup, List.map_cons, List.map_nil, cond_true, cond_false, aop, ev, sput, Zf, Zz, Ya, unK, Zi, Nat.reduceBEq, tyf, Yk, List.nil_append, List.append_nil, e00, hv6.len]
    refine (staking_call hs6 (show ys.length ≤ 62 by omega) (by omega) hir).mono ?_
    rintro _ H2 ⟨rfl, rfl⟩
    have hd : (decide (ps.length = ys.length) && stB ps) = true := by rw [hst, Bool.and_true, decide_eq_true_eq]; omega
    have hne : (((ws.length : Nat) : Int) != ((ys.length : Nat) : Int)) = false := by rw [hwsl, re]; simp
    simp (maxSteps := 2000000) only [↓Zb, ↓Zc, ↓vdn, vup, List.map_cons, List.map_nil, cond_true, cond_false, aop, Zg, ev, sput, Zf, Zz, Ya, Zi, Nat.reduceBEq, tyf, hd, hwl.len, hv6.len, hne]
    refine hN5 [(0, u), (1, v), (4, .bool false), (5, s), (6, .int .i64 0), (7, w), (8, .int .i64 0), (67, .bool false)] _ _ ?_ (by simp (maxSteps := 2000000) only [vup, cond_true, cond_false, Nat.reduceBEq])
    clear hN5
    try clear N5
    refine Xa rfl ?_
    refine Zj ?_
    simp (maxSteps := 2000000) only [↓Zo, Zg]
    refine hM [(0, u), (1, v), (4, .bool false), (5, s), (6, .int .i64 0), (7, w), (8, .int .i64 0)] _ _ ?_ (by simp (maxSteps := 2000000) only [vup, cond_true, cond_false, Nat.reduceBEq])
    clear hM
    try clear M
    refine Ze fun N6 hN6 => ?_
    simp (maxSteps := 2000000) only [↓Za, ↓Zb, ↓Zc, vup, cond_false, aop, Zg, ev, sput, Zf, Nat.reduceBEq]
    refine hN6 [(0, u), (1, v), (4, .bool false), (5, s), (6, .int .i64 0), (7, w), (8, .int .i64 0), (9, .int .i64 0), (10, .int .i64 1)] _ _ ?_ (by simp (maxSteps := 2000000) only [vup, cond_true, cond_false, Nat.reduceBEq])
    clear hN6
    try clear N6
    refine Ze fun N7 hN7 => ?_
    simp (maxSteps := 2000000) only [↓Za, ↓Zb, ↓Zc, vup, cond_false, aop, Zg, ev, sput, Zf, Nat.reduceBEq]
    refine hN7 [(0, u), (1, v), (4, .bool false), (5, s), (6, .int .i64 0), (7, w), (8, .int .i64 0), (9, .int .i64 0), (10, .int .i64 1), (11, .int .i64 0)] _ _ ?_ (by simp (maxSteps := 2000000) only [vup, cond_true, cond_false, Nat.reduceBEq])
    clear hN7
    try clear N7
    obtain ⟨p12, hp12⟩ : ∃ p, H2.length = p := ⟨_, rfl⟩
    obtain ⟨H3, hH3⟩ : ∃ H3, H3 = H2 ++ [fC 0 1] := ⟨_, rfl⟩
    have k0 : H3[p12]? = some (fC (0 : Rat).num (0 : Rat).den) := by rw [hH3, ← hp12]; exact Zy _ _
    have hE3 : Ext (fun _ => False) H2 H3 := by rw [hH3]; exact Ext.app _ _ _
    refine Ze fun N8 hN8 => ?_
    simp (maxSteps := 2000000) only [↓Za, ↓Zb, ↓Zc, vup, List.map_cons, List.map_nil, cond_true, cond_false, aop, Zg, ev, sput, Zf, Nat.reduceBEq, tyf, bldK, Xe, Yr, Xk (Zy H2 z0) rfl, Xn]
    rw [← hH3, hp12]
    refine hN8 [(0, u), (1, v), (4, .bool false), (5, s), (6, .int .i64 0), (7, w), (8, .int .i64 0), (9, .int .i64 0), (10, .int .i64 1), (11, .int .i64 0), (12, .pointer (some ⟨p12, 0, none⟩))] _ _ ?_ (by simp (maxSteps := 2000000) only [vup, cond_true, cond_false, Nat.reduceBEq])
    clear hN8
    try clear N8
    refine Zk fun Z hZ => ?_
    refine Ze fun N9 hN9 => ?_
    simp (maxSteps := 2000000) only [↓Za, ↓Zb, ↓Zc, vup, List.map_cons, List.map_nil, cond_true, cond_false, aop, Zg, ev, sput, Zf, Zi, Nat.reduceBEq, tyf, hwl.len]
    refine hN9 [(0, u), (1, v), (4, .bool false), (5, s), (6, .int .i64 0), (7, w), (8, .int .i64 0), (9, .int .i64 0), (10, .int .i64 1), (11, .int .i64 0), (12, .pointer (some ⟨p12, 0, none⟩)), (69, w), (70, Zd ws.length), (71, .int .i64 0)] _ _ ?_ (by simp (maxSteps := 2000000) only [vup, cond_true, cond_false, Nat.reduceBEq])
    clear hN9
    try clear N9
    refine Zl ?_
    refine Zm fun Q hQ => ?_
    refine Yh (γ := Nat × Zh) (fun z => z.1 ≤ ws.length ∧ Ext (fun _ => False) H2 z.2 ∧ z.2[p12]? = some (fC (kKp K T z.1).num (kKp K T z.1).den))
      (fun z => ([(0, u), (1, v), (4, .bool false), (5, s), (6, .int .i64 0), (7, w), (8, .int .i64 0), (9, Zd (kAB ys T z.1).1), (10, Zd (kAB ys T z.1).2), (11, Zd (kPs xs T z.1)), (12, .pointer (some ⟨p12, 0, none⟩)), (69, w), (70, Zd ws.length), (71, Zd (z.1 : Nat))], z.2)) (fun z => ws.length - z.1) (0, H3) ⟨Nat.zero_le _, hE3, k0⟩ (by simp (maxSteps := 2000000) only [vup, cond_true, cond_false, Nat.reduceBEq, Int.natCast_zero, kAB, kPs]) rfl ?_
    rintro ⟨i, hp⟩ ⟨hi, hEp, hk12⟩
    simp only at hi hEp hk12
    obtain ⟨a, ha⟩ : ∃ a, (kAB ys T i).1 = a := ⟨_, rfl⟩
    obtain ⟨b, hbb⟩ : ∃ b, (kAB ys T i).2 = b := ⟨_, rfl⟩
    obtain ⟨p, hpp⟩ : ∃ p, kPs xs T i = p := ⟨_, rfl⟩
    rw [ha, hbb, hpp]
    refine Zm fun Q2 hQ2 => ?_
    simp only [l16_0]
    by_cases hin : (i : Int) < ws.length
    · have hi' : i < ws.length := by omega
      have hix : i < xs.length := by omega
      have hiy : i < ys.length := by omega
      have hip : i < ps.length := by omega
      have hwp := hwl.ext hEp
      have hwi := hwget i hix
      have bi := bf i hix
      have kti := kt i hix
      have b12 := kab i (by omega)
      have ab := kle i (by omega)
      have pr := kpr i (by omega)
      have p12i : (12 : Int) ^ i ≤ 248832 := by
        have := Nat.pow_le_pow_right (n := 12) (by decide) (show i ≤ 5 by omega)
        have h2 : ((12 ^ i : Nat) : Int) ≤ 248832 := by omega
        simpa using h2
      obtain ⟨q, hq⟩ : ∃ q, worthQ ys ps i = q := ⟨_, rfl⟩
      obtain ⟨c, hce⟩ : ∃ c, xs.getD i 0 = c := ⟨_, rfl⟩
      obtain ⟨o, hoe⟩ : ∃ c, ys.getD i 0 = c := ⟨_, rfl⟩
      have ob := rc.b i hiy
      have cb := rc.a i hix
      rw [hoe] at ob
      rw [hce] at cb
      rw [hq] at hwi bi kti
      rw [hce, hoe] at bi
      obtain ⟨⟨s1, s2⟩, hse⟩ : ∃ p, ps.getD i (0, 0) = p := ⟨_, rfl⟩
      rw [hse] at bi kti
      simp only at bi kti
      rw [ha, hbb] at ab
      rw [hbb] at b12
      rw [hpp] at pr
      obtain ⟨b0, b1, _⟩ := b12
      obtain ⟨pr0, pr1, _⟩ := pr
      obtain ⟨x, hx⟩ : ∃ x, q.num = x := ⟨_, rfl⟩
      obtain ⟨y, hy⟩ : ∃ y : Int, (q.den : Int) = y := ⟨_, rfl⟩
      have y1 : 1 ≤ y := by have := q.den_pos; omega
      have y2 : y ≤ 332640 := by have := bi.1; omega
      obtain ⟨_, x0, x12, hAB, hAe, hc0, hco⟩ := bi
      rw [hx, hy] at x12
      rw [hx] at x0 hc0
      rw [hx, hy] at hwi
      have m3 : mulV .i64 12 y = 12 * y := mulN (by omega)
      obtain ⟨hh, hhe⟩ : ∃ hh, hh = hp ++ [fC x y] := ⟨_, rfl⟩
      have c14 : hh[hp.length]? = some (fC x y) := by rw [hhe]; exact Zy _ _
      have c12 : hh[p12]? = some (fC (kKp K T i).num (kKp K T i).den) := by rw [hhe]; exact Xg hk12 _
      have hEh : Ext (fun _ => False) H2 hh := by rw [hhe]; exact hEp.trans (Ext.app _ _ _)
      have hu7 := Xq hu6 hEh
      have hv7 := Xq hv6 hEh
      have hs7 := hs6.ext hEh
      obtain ⟨_, _, i0, i1, i2, i3, i4⟩ := pairFlds hs7 hip
      rw [hse] at i3 i4
      have ny : ¬ y < 1 := by omega
      have ny2 : ¬ y > 10000000000 := by omega
      have nx : ¬ x < 0 := by omega
      have nx2 : ¬ x > 12 * y := by omega
      refine Ze fun N10 hN10 => ?_
      simp (maxSteps := 2000000) only [↓Za, ↓Zb, ↓Zc, vup, cond_true, cond_false, aop, Zg, ev, sput, Zf, Zz, Ya, Nat.reduceBEq, hin]
      refine hN10 [(0, u), (1, v), (4, .bool false), (5, s), (6, .int .i64 0), (7, w), (8, .int .i64 0), (9, Zd a), (10, Zd b), (11, Zd p), (12, .pointer (some ⟨p12, 0, none⟩)), (69, w), (70, Zd ws.length), (71, Zd (i : Nat)), (72, .bool true)] _ _ ?_ (by simp (maxSteps := 2000000) only [vup, cond_true, cond_false, Nat.reduceBEq])
      clear hN10
      try clear N10
      refine Ze fun N11 hN11 => ?_
      simp (maxSteps := 2000000) only [↓Zo, ↓vdn, vup, cond_true, cond_false, Zg, ev, Nat.reduceBEq]
      refine hN11 [(0, u), (1, v), (4, .bool false), (5, s), (6, .int .i64 0), (7, w), (8, .int .i64 0), (9, Zd a), (10, Zd b), (11, Zd p), (12, .pointer (some ⟨p12, 0, none⟩)), (69, w), (70, Zd ws.length), (71, Zd (i : Nat))] _ _ ?_ (by simp (maxSteps := 2000000) only [vup, cond_true, cond_false, Nat.reduceBEq])
      clear hN11
      try clear N11
      refine Zk fun B hB => ?_
      refine Zl ?_
      refine Ze fun N12 hN12 => ?_
      simp (maxSteps := 2000000) only [↓Za, ↓Zb, ↓Zc, vup, cond_true, cond_false, aop, Zg, ev, sput, Zf, Nat.reduceBEq, tyf, hwp.idx Vo Xw hi', hwp.load Wv hi', hwi, Xe, Yr, Xk (Zy hp z0) rfl, Xn]
      rw [← hhe]
      refine hN12 [(0, u), (1, v), (4, .bool false), (5, s), (6, .int .i64 0), (7, w), (8, .int .i64 0), (9, Zd a), (10, Zd b), (11, Zd p), (12, .pointer (some ⟨p12, 0, none⟩)), (13, Zd (i : Nat)), (14, .pointer (some ⟨hp.length, 0, none⟩)), (69, w), (70, Zd ws.length), (71, Zd (i : Nat))] _ _ ?_ (by simp (maxSteps := 2000000) only [vup, cond_true, cond_false, Nat.reduceBEq])
      clear hN12
      try clear N12
      refine Zk fun C hC => ?_
      refine Ze fun N13 hN13 => ?_
      simp (maxSteps := 2000000) only [↓Za, ↓Zb, ↓Zc, ↓vdn, vup, cond_true, cond_false, aop, Zg, ev, sput, Zf, Zz, Ya, Nat.reduceBEq, tyf, fA0, fA1, Wk c14, Xu c14, m3, ny, ny2, nx, nx2]
      refine hN13 [(0, u), (1, v), (4, .bool false), (5, s), (6, .int .i64 0), (7, w), (8, .int .i64 0), (9, Zd a), (10, Zd b), (11, Zd p), (12, .pointer (some ⟨p12, 0, none⟩)), (13, Zd (i : Nat)), (14, .pointer (some ⟨hp.length, 0, none⟩)), (69, w), (70, Zd ws.length), (71, Zd (i : Nat)), (96, .bool false)] _ _ ?_ (by simp (maxSteps := 2000000) only [vup, cond_true, cond_false, Nat.reduceBEq])
      clear hN13
      try clear N13
      refine Xa rfl ?_
      refine Zj ?_
      simp (maxSteps := 2000000) only [↓Zo, Zg]
      refine hC [(0, u), (1, v), (4, .bool false), (5, s), (6, .int .i64 0), (7, w), (8, .int .i64 0), (9, Zd a), (10, Zd b), (11, Zd p), (12, .pointer (some ⟨p12, 0, none⟩)), (13, Zd (i : Nat)), (14, .pointer (some ⟨hp.length, 0, none⟩)), (69, w), (70, Zd ws.length), (71, Zd (i : Nat))] _ _ ?_ (by simp (maxSteps := 2000000) only [vup, cond_true, cond_false, Nat.reduceBEq])
      clear hC
      try clear C
      refine Zl ?_
      have fin : ∀ (a' b' p' : Int) (hh' : Zh), (kAB ys T (i + 1)).1 = a' → (kAB ys T (i + 1)).2 = b' → kPs xs T (i + 1) = p' → Ext (fun _ => False) H2 hh' → hh'[p12]? = some (fC (kKp K T (i + 1)).num (kKp K T (i + 1)).den) → ∀ e, ELe e [(0, u), (1, v), (4, .bool false), (5, s), (6, .int .i64 0), (7, w), (8, .int .i64 0), (9, Zd a'), (10, Zd b'), (11, Zd p'), (12, .pointer (some ⟨p12, 0, none⟩)), (69, w), (70, Zd ws.length), (71, Zd (i : Nat))] → B e hh' := by
        intro a' b' p' hh' e1 e2 e3 e4 e5 e he
        refine hB _ _ _ ?_ he
        refine Zj ?_
        simp (maxSteps := 2000000) only [↓Za, ↓Zb, ↓Zc, vup, cond_true, cond_false, aop, ev, sput, Zf, Zz, Ya, Nat.reduceBEq, add1 (show i < 9223372036854775807 by omega)]
        exact hQ2 _ _ _ ⟨(i + 1, hh'), ⟨hi', e4, e5⟩, by simp only; omega, by simp (maxSteps := 2000000) only [vup, cond_true, cond_false, Nat.reduceBEq, e1, e2, e3], rfl⟩
      cases hbit : T.testBit i with
      | true =>
        have hs : s1 > 0 := kti.1 hbit
        have ao : (a * o).natAbs ≤ 248832 * 12 := by rw [Int.natAbs_mul]; exact Nat.mul_le_mul (by omega) (by omega)
        have bo : (b * o).natAbs ≤ 248832 * 12 := by rw [Int.natAbs_mul]; exact Nat.mul_le_mul (by omega) (by omega)
        have m1 : mulV .i64 a o = a * o := mulN (by omega)
        have m2 : mulV .i64 b o = b * o := mulN (by omega)
        have a1 : addV .i64 (a * o) b = a * o + b := addN (by omega)
        refine Ze fun N14 hN14 => ?_
        simp (maxSteps := 2000000) only [↓Za, ↓Zb, ↓Zc, vup, cond_true, cond_false, aop, Zg, ev, sput, Zf, Zz, Ya, Nat.reduceBEq, tyf, i0, i1, i3, hs]
        refine hN14 [(0, u), (1, v), (4, .bool false), (5, s), (6, .int .i64 0), (7, w), (8, .int .i64 0), (9, Zd a), (10, Zd b), (11, Zd p), (12, .pointer (some ⟨p12, 0, none⟩)), (13, Zd (i : Nat)), (14, .pointer (some ⟨hp.length, 0, none⟩)), (69, w), (70, Zd ws.length), (71, Zd (i : Nat)), (98, .bool true)] _ _ ?_ (by simp (maxSteps := 2000000) only [vup, cond_true, cond_false, Nat.reduceBEq])
        clear hN14
        try clear N14
        refine Wf rfl ?_
        refine Zj ?_
        simp only [q16_17]
        refine Yo [] (by kernel_rfl) (by kernel_rfl) (by kernel_rfl) (by kernel_rfl) ?_
        simp (maxSteps := 2000000) only [↓Zp, ↓vdn, vup, cond_true, cond_false, aop, Zg, Zn, ev, sput, Zf, Zz, Ya, Nat.reduceBEq, Nat.reduceAdd, tyf, hv7.idx Wb Xt hiy, hv7.load Xl hiy, hoe, m1, m2, a1]
        exact fin (a * o + b) (b * o) p hh (by rw [kAB, hbit, if_pos rfl, ha, hbb, hoe]) (by rw [kAB, hbit, if_pos rfl, hbb, hoe]) (by rw [kPs, hbit, if_pos rfl, hpp]) hEh (by rw [kKp, hbit, if_pos rfl]; exact c12) _ (by simp (maxSteps := 2000000) only [vup, cond_true, cond_false, Nat.reduceBEq])
      | false =>
        obtain ⟨hs0, hqK⟩ := kti.2 hbit
        have hs : ¬ s1 > 0 := by omega
        obtain ⟨h', hh'⟩ : ∃ h', h' = hh.set p12 (fC x y) := ⟨_, rfl⟩
        have hE' : Ext (fun _ => False) H2 h' := by rw [hh']; exact hEh.set_ge (by omega) _
        have hk' : h'[p12]? = some (fC (kKp K T (i + 1)).num (kKp K T (i + 1)).den) := by
          rw [kKp, hbit, if_neg (by simp), hh', ← hqK, hx, hy]; exact Xs (Yj c12) _
        have eA : kAB ys T (i + 1) = kAB ys T i := by rw [kAB, hbit, if_neg (by simp)]
        refine Ze fun N15 hN15 => ?_
        simp (maxSteps := 2000000) only [↓Za, ↓Zb, ↓Zc, vup, cond_true, cond_false, aop, Zg, ev, sput, Zf, Zz, Ya, Nat.reduceBEq, tyf, i0, i1, i3, hs]
        refine hN15 [(0, u), (1, v), (4, .bool false), (5, s), (6, .int .i64 0), (7, w), (8, .int .i64 0), (9, Zd a), (10, Zd b), (11, Zd p), (12, .pointer (some ⟨p12, 0, none⟩)), (13, Zd (i : Nat)), (14, .pointer (some ⟨hp.length, 0, none⟩)), (69, w), (70, Zd ws.length), (71, Zd (i : Nat)), (98, .bool false)] _ _ ?_ (by simp (maxSteps := 2000000) only [vup, cond_true, cond_false, Nat.reduceBEq])
        clear hN15
        try clear N15
        refine Xa rfl ?_
        by_cases hc : c > 0
        · have hx0 : (x == 0) = false := by
            rw [beq_eq_false_iff_ne]; intro h0
            have := hc0 h0; omega
          have a2 : addV .i64 p c = p + c := addN (by omega)
          refine Ze fun N16 hN16 => ?_
          simp (maxSteps := 2000000) only [↓Za, ↓Zb, ↓Zc, vup, cond_true, cond_false, aop, Zg, ev, sput, Zf, Zz, Ya, Nat.reduceBEq, tyf, hu7.idx Wb Xt hix, hu7.load Xl hix, hce, hc]
          refine hN16 [(0, u), (1, v), (4, .bool false), (5, s), (6, .int .i64 0), (7, w), (8, .int .i64 0), (9, Zd a), (10, Zd b), (11, Zd p), (12, .pointer (some ⟨p12, 0, none⟩)), (13, Zd (i : Nat)), (14, .pointer (some ⟨hp.length, 0, none⟩)), (69, w), (70, Zd ws.length), (71, Zd (i : Nat)), (98, .bool false), (119, .bool true)] _ _ ?_ (by simp (maxSteps := 2000000) only [vup, cond_true, cond_false, Nat.reduceBEq])
          clear hN16
          try clear N16
          refine Wf rfl ?_
          refine Zk fun D hD => ?_
          refine Ze fun N17 hN17 => ?_
          simp (maxSteps := 2000000) only [↓Za, ↓Zb, ↓Zc, vup, cond_true, cond_false, aop, Zg, ev, sput, Zf, Zz, Ya, Nat.reduceBEq, tyf, fA0, Wk c14, hx0]
          refine hN17 [(0, u), (1, v), (4, .bool false), (5, s), (6, .int .i64 0), (7, w), (8, .int .i64 0), (9, Zd a), (10, Zd b), (11, Zd p), (12, .pointer (some ⟨p12, 0, none⟩)), (13, Zd (i : Nat)), (14, .pointer (some ⟨hp.length, 0, none⟩)), (69, w), (70, Zd ws.length), (71, Zd (i : Nat)), (98, .bool false), (119, .bool true), (127, .bool false)] _ _ ?_ (by simp (maxSteps := 2000000) only [vup, cond_true, cond_false, Nat.reduceBEq])
          clear hN17
          try clear N17
          refine Xa rfl ?_
          refine Zj ?_
          simp (maxSteps := 2000000) only [↓Zo, Zg]
          refine hD [(0, u), (1, v), (4, .bool false), (5, s), (6, .int .i64 0), (7, w), (8, .int .i64 0), (9, Zd a), (10, Zd b), (11, Zd p), (12, .pointer (some ⟨p12, 0, none⟩)), (13, Zd (i : Nat)), (14, .pointer (some ⟨hp.length, 0, none⟩)), (69, w), (70, Zd ws.length), (71, Zd (i : Nat)), (98, .bool false), (119, .bool true)] _ _ ?_ (by simp (maxSteps := 2000000) only [vup, cond_true, cond_false, Nat.reduceBEq])
          clear hD
          try clear D
          refine Ze fun N18 hN18 => ?_
          simp (maxSteps := 2000000) only [↓Za, ↓Zb, ↓Zc, vup, cond_true, cond_false, aop, Zg, ev, sput, Zf, Zz, Ya, Nat.reduceBEq, tyf, hu7.idx Wb Xt hix, hu7.load Xl hix, hce, a2]
          refine hN18 [(0, u), (1, v), (4, .bool false), (5, s), (6, .int .i64 0), (7, w), (8, .int .i64 0), (9, Zd a), (10, Zd b), (11, Zd (p + c)), (12, .pointer (some ⟨p12, 0, none⟩)), (13, Zd (i : Nat)), (14, .pointer (some ⟨hp.length, 0, none⟩)), (69, w), (70, Zd ws.length), (71, Zd (i : Nat)), (98, .bool false), (119, .bool true)] _ _ ?_ (by simp (maxSteps := 2000000) only [vup, cond_true, cond_false, Nat.reduceBEq])
          clear hN18
          try clear N18
          refine Zj ?_
          simp (maxSteps := 2000000) only [↓Za, ↓Zb, ↓Zc, vup, cond_true, cond_false, aop, Zg, Zn, ev, sput, Zf, Nat.reduceBEq, Ws c14, Xk c12 rfl]
          rw [← hh']
          exact fin a b (p + c) h' (by rw [eA, ha]) (by rw [eA, hbb]) (by rw [kPs, hbit, if_neg (by simp), hce, if_pos hc, hpp]) hE' hk' _ (by simp (maxSteps := 2000000) only [vup, cond_true, cond_false, Nat.reduceBEq])
        · refine Ze fun N19 hN19 => ?_
          simp (maxSteps := 2000000) only [↓Za, ↓Zb, ↓Zc, vup, cond_true, cond_false, aop, Zg, ev, sput, Zf, Zz, Ya, Nat.reduceBEq, tyf, hu7.idx Wb Xt hix, hu7.load Xl hix, hce, hc]
          refine hN19 [(0, u), (1, v), (4, .bool false), (5, s), (6, .int .i64 0), (7, w), (8, .int .i64 0), (9, Zd a), (10, Zd b), (11, Zd p), (12, .pointer (some ⟨p12, 0, none⟩)), (13, Zd (i : Nat)), (14, .pointer (some ⟨hp.length, 0, none⟩)), (69, w), (70, Zd ws.length), (71, Zd (i : Nat)), (98, .bool false), (119, .bool false)] _ _ ?_ (by simp (maxSteps := 2000000) only [vup, cond_true, cond_false, Nat.reduceBEq])
          clear hN19
          try clear N19
          refine Xa rfl ?_
          refine Zj ?_
          simp (maxSteps := 2000000) only [↓Za, ↓Zb, ↓Zc, vup, cond_true, cond_false, aop, Zg, Zn, ev, sput, Zf, Nat.reduceBEq, Ws c14, Xk c12 rfl]
          rw [← hh']
          exact fin a b p h' (by rw [eA, ha]) (by rw [eA, hbb]) (by rw [kPs, hbit, if_neg (by simp), hce, if_neg hc, hpp]) hE' hk' _ (by simp (maxSteps := 2000000) only [vup, cond_true, cond_false, Nat.reduceBEq])
    · obtain rfl : i = ws.length := by omega
      refine Ze fun N20 hN20 => ?_
      simp (maxSteps := 2000000) only [↓Za, ↓Zb, ↓Zc, vup, cond_true, cond_false, aop, Zg, ev, sput, Zf, Zz, Ya, Nat.reduceBEq, hin]
      refine hN20 [(0, u), (1, v), (4, .bool false), (5, s), (6, .int .i64 0), (7, w), (8, .int .i64 0), (9, Zd a), (10, Zd b), (11, Zd p), (12, .pointer (some ⟨p12, 0, none⟩)), (69, w), (70, Zd ws.length), (71, Zd ws.length), (72, .bool false)] _ _ ?_ (by simp (maxSteps := 2000000) only [vup, cond_true, cond_false, Nat.reduceBEq])
      clear hN20
      try clear N20
      refine Ze fun N21 hN21 => ?_
      simp (maxSteps := 2000000) only [↓Yn, ↓vdn, vup, cond_true, cond_false, Zg, ev, Nat.reduceBEq]
      refine hQ2 _ _ _ (hQ _ _ _ ?_)
      simp (maxSteps := 2000000) only [Zg, Zn, Zr, if_true]
      refine hZ [(0, u), (1, v), (4, .bool false), (5, s), (6, .int .i64 0), (7, w), (8, .int .i64 0), (9, Zd a), (10, Zd b), (11, Zd p), (12, .pointer (some ⟨p12, 0, none⟩)), (72, .bool false)] _ _ ?_ (by simp (maxSteps := 2000000) only [vup, cond_true, cond_false, Nat.reduceBEq])
      clear hZ
      try clear Z
      have b12 := kab ws.length (by omega)
      have ab := kle ws.length (by omega)
      have pr := kpr ws.length (by omega)
      have p5 : (12 : Int) ^ ws.length ≤ 248832 := by
        have := Nat.pow_le_pow_right (n := 12) (by decide) (show ws.length ≤ 5 by omega)
        have h2 : ((12 ^ ws.length : Nat) : Int) ≤ 248832 := by omega
        simpa using h2
      rw [← hwsl] at kz ke
      rw [hpp] at kz ke pr
      rw [ha, hbb] at ke ab
      rw [hbb] at b12
      obtain ⟨b0, b1, _⟩ := b12
      obtain ⟨pr0, pr1, _⟩ := pr
      have hsp := hs6.ext hEp
      have hM := (mult_spec hc.m).2.2
      refine Ze fun N22 hN22 => ?_
      simp (maxSteps := 2000000) only [↓Za, ↓Zb, ↓Zc, vup, List.map_cons, List.map_nil, cond_true, cond_false, aop, Zg, ev, sput, Zf, Nat.reduceBEq, Yk, List.nil_append, List.append_nil]
      refine (mult_call hsp (by omega) hir).mono ?_
      rintro _ hp ⟨rfl, rfl⟩
      refine hN22 [(0, u), (1, v), (4, .bool false), (5, s), (6, .int .i64 0), (7, w), (8, .int .i64 0), (9, Zd a), (10, Zd b), (11, Zd p), (12, .pointer (some ⟨p12, 0, none⟩)), (15, Zd (Xd ps : Nat)), (16, .int .i64 0), (72, .bool false)] _ _ ?_ (by simp (maxSteps := 2000000) only [vup, cond_true, cond_false, Nat.reduceBEq])
      clear hN22
      try clear N22
      refine Zk fun Z hZ => ?_
      obtain ⟨ev1, hev⟩ : ∃ e, 2 ^ ps.length - 1 = e := ⟨_, rfl⟩
      refine Ze fun N23 hN23 => ?_
      simp (maxSteps := 2000000) only [↓Za, ↓Zb, ↓Zc, vup, List.map_cons, List.map_nil, cond_true, cond_false, aop, Zg, ev, sput, Zf, Zi, Nat.reduceBEq, tyf, hsp.len]
      refine hN23 [(0, u), (1, v), (4, .bool false), (5, s), (6, .int .i64 0), (7, w), (8, .int .i64 0), (9, Zd a), (10, Zd b), (11, Zd p), (12, .pointer (some ⟨p12, 0, none⟩)), (15, Zd (Xd ps : Nat)), (16, .int .i64 0), (72, .bool false), (138, s), (139, Zd ps.length), (140, .int .i64 0)] _ _ ?_ (by simp (maxSteps := 2000000) only [vup, cond_true, cond_false, Nat.reduceBEq])
      clear hN23
      try clear N23
      refine Zl ?_
      refine Zm fun Q hQ => ?_
      refine Yh (γ := Nat × Zh) (fun z => z.1 ≤ ps.length ∧ Ext (fun _ => False) hp z.2)
        (fun z => ([(0, u), (1, v), (4, .bool false), (5, s), (6, .int .i64 0), (7, w), (8, .int .i64 0), (9, Zd a), (10, Zd b), (11, Zd p), (12, .pointer (some ⟨p12, 0, none⟩)), (15, Zd (Xd ps : Nat)), (16, Zd (Xp (Xd ps) ps ev1 z.1)), (72, .bool false), (138, s), (139, Zd ps.length), (140, Zd (z.1 : Nat))], z.2)) (fun z => ps.length - z.1) (0, hp) ⟨Nat.zero_le _, Ext.refl _ _⟩ (by simp (maxSteps := 2000000) only [vup, cond_true, cond_false, Nat.reduceBEq, Int.natCast_zero, Xp]) rfl ?_
      rintro ⟨j, G⟩ ⟨hj, hEG⟩
      simp only at hj hEG
      obtain ⟨P, hP⟩ : ∃ P, Xp (Xd ps) ps ev1 j = P := ⟨_, rfl⟩
      have pb := partTo_bound hc ev1 j hj
      rw [hP] at pb ⊢
      have hbm : (j : Int) * (Xd ps : Int) ≤ 5 * (Xd ps : Int) := Int.mul_le_mul_of_nonneg_right (by omega) (by omega)
      refine Zm fun Q2 hQ2 => ?_
      simp only [l16_1]
      by_cases hin : (j : Int) < ps.length
      · have hj' : j < ps.length := by omega
        have hsG := hsp.ext hEG
        obtain ⟨⟨x, y⟩, hxy⟩ : ∃ p, ps.getD j (0, 0) = p := ⟨_, rfl⟩
        obtain ⟨r1, r2, r3, r4, r5, r6⟩ := hc.rp (Xv hj')
        have hbj : ev1.testBit j = true := by rw [← hev, Nat.testBit_two_pow_sub_one]; simpa using hj'
        have hnext : Xp (Xd ps) ps ev1 (j + 1) = P + (Xd ps : Int) / y * x := by rw [Xp, hbj, if_pos rfl, hxy, hP]
        rw [hxy] at r1 r2 r3 r4 r5 r6
        simp only at r1 r2 r3 r4 r5 r6
        have hy0 : ¬ y = 0 := by omega
        have q1 : quoV .i64 ((Xd ps : Nat) : Int) y = (Xd ps : Int) / y := quo_dvd (by omega) r6
        have m1 : mulV .i64 ((Xd ps : Int) / y) x = (Xd ps : Int) / y * x := mulN (by omega)
        have a1 : addV .i64 P ((Xd ps : Int) / y * x) = P + (Xd ps : Int) / y * x := addN (by omega)
        obtain ⟨G2, hG2⟩ : ∃ H, H = G ++ [fC x y] := ⟨_, rfl⟩
        have c18 : G2[G.length]? = some (fC x y) := by rw [hG2]; exact Zy _ _
        have hEG2 : Ext (fun _ => False) hp G2 := by rw [hG2]; exact hEG.trans (Ext.app _ _ _)
        refine Ze fun N24 hN24 => ?_
        simp (maxSteps := 2000000) only [↓Za, ↓Zb, ↓Zc, vup, cond_true, cond_false, aop, Zg, ev, sput, Zf, Zz, Ya, Nat.reduceBEq, hin]
        refine hN24 [(0, u), (1, v), (4, .bool false), (5, s), (6, .int .i64 0), (7, w), (8, .int .i64 0), (9, Zd a), (10, Zd b), (11, Zd p), (12, .pointer (some ⟨p12, 0, none⟩)), (15, Zd (Xd ps : Nat)), (16, Zd P), (72, .bool false), (138, s), (139, Zd ps.length), (140, Zd (j : Nat)), (141, .bool true)] _ _ ?_ (by simp (maxSteps := 2000000) only [vup, cond_true, cond_false, Nat.reduceBEq])
        clear hN24
        try clear N24
        refine Ze fun N25 hN25 => ?_
        simp (maxSteps := 2000000) only [↓Zo, ↓vdn, vup, cond_true, cond_false, Zg, ev, Nat.reduceBEq]
        refine hN25 [(0, u), (1, v), (4, .bool false), (5, s), (6, .int .i64 0), (7, w), (8, .int .i64 0), (9, Zd a), (10, Zd b), (11, Zd p), (12, .pointer (some ⟨p12, 0, none⟩)), (15, Zd (Xd ps : Nat)), (16, Zd P), (72, .bool false), (138, s), (139, Zd ps.length), (140, Zd (j : Nat))] _ _ ?_ (by simp (maxSteps := 2000000) only [vup, cond_true, cond_false, Nat.reduceBEq])
        clear hN25
        try clear N25
        refine Zk fun B hB => ?_
        refine Zl ?_
        refine Ze fun N26 hN26 => ?_
        simp (maxSteps := 2000000) only [↓Za, ↓Zb, ↓Zc, vup, cond_true, cond_false, aop, Zg, ev, sput, Zf, Nat.reduceBEq, tyf, hsG.idx Vo Xw hj', hsG.load Wv hj', hxy, Xe, Yr, Xk (Zy G z0) rfl, Xn]
        rw [← hG2]
        refine hN26 [(0, u), (1, v), (4, .bool false), (5, s), (6, .int .i64 0), (7, w), (8, .int .i64 0), (9, Zd a), (10, Zd b), (11, Zd p), (12, .pointer (some ⟨p12, 0, none⟩)), (15, Zd (Xd ps : Nat)), (16, Zd P), (18, .pointer (some ⟨G.length, 0, none⟩)), (72, .bool false), (138, s), (139, Zd ps.length), (140, Zd (j : Nat))] _ _ ?_ (by simp (maxSteps := 2000000) only [vup, cond_true, cond_false, Nat.reduceBEq])
        clear hN26
        try clear N26
        refine Zj ?_
        simp only [q16_28]
        refine Yo [] (by kernel_rfl) (by kernel_rfl) (by kernel_rfl) (by kernel_rfl) ?_
        simp (maxSteps := 2000000) only [↓Zp, ↓vdn, vup, cond_true, cond_false, aop, Zg, Zn, ev, sput, Zf, Zz, Ya, Nat.reduceBEq, Nat.reduceAdd, tyf, fA0, fA1, Wk c18, Xu c18, ne_eq, hy0, not_false_eq_true, q1, m1, a1]
        refine hB [(0, u), (1, v), (4, .bool false), (5, s), (6, .int .i64 0), (7, w), (8, .int .i64 0), (9, Zd a), (10, Zd b), (11, Zd p), (12, .pointer (some ⟨p12, 0, none⟩)), (15, Zd (Xd ps : Nat)), (16, Zd (P + (Xd ps : Int) / y * x)), (72, .bool false), (138, s), (139, Zd ps.length), (140, Zd (j : Nat))] _ _ ?_ (by simp (maxSteps := 2000000) only [vup, cond_true, cond_false, Nat.reduceBEq])
        clear hB
        try clear B
        refine Zj ?_
        simp (maxSteps := 2000000) only [↓Za, ↓Zb, ↓Zc, vup, cond_true, cond_false, aop, ev, sput, Zf, Zz, Ya, Nat.reduceBEq, add1 (show j < 9223372036854775807 by omega)]
        exact hQ2 _ _ _ ⟨(j + 1, G2), ⟨hj', hEG2⟩, by simp only; omega, by simp (maxSteps := 2000000) only [vup, cond_true, cond_false, Nat.reduceBEq, hnext], rfl⟩
      · obtain rfl : j = ps.length := by omega
        refine Ze fun N27 hN27 => ?_
        simp (maxSteps := 2000000) only [↓Za, ↓Zb, ↓Zc, vup, cond_true, cond_false, aop, Zg, ev, sput, Zf, Zz, Ya, Nat.reduceBEq, hin]
        refine hN27 [(0, u), (1, v), (4, .bool false), (5, s), (6, .int .i64 0), (7, w), (8, .int .i64 0), (9, Zd a), (10, Zd b), (11, Zd p), (12, .pointer (some ⟨p12, 0, none⟩)), (15, Zd (Xd ps : Nat)), (16, Zd P), (72, .bool false), (138, s), (139, Zd ps.length), (140, Zd ps.length), (141, .bool false)] _ _ ?_ (by simp (maxSteps := 2000000) only [vup, cond_true, cond_false, Nat.reduceBEq])
        clear hN27
        try clear N27
        refine Ze fun N28 hN28 => ?_
        simp (maxSteps := 2000000) only [↓Yn, ↓vdn, vup, cond_true, cond_false, Zg, ev, Nat.reduceBEq]
        refine hQ2 _ _ _ (hQ _ _ _ ?_)
        simp (maxSteps := 2000000) only [Zg, Zn, Zr, if_true]
        refine hZ [(0, u), (1, v), (4, .bool false), (5, s), (6, .int .i64 0), (7, w), (8, .int .i64 0), (9, Zd a), (10, Zd b), (11, Zd p), (12, .pointer (some ⟨p12, 0, none⟩)), (15, Zd (Xd ps : Nat)), (16, Zd P), (72, .bool false), (141, .bool false)] _ _ ?_ (by simp (maxSteps := 2000000) only [vup, cond_true, cond_false, Nat.reduceBEq])
        clear hZ
        try clear Z
        have k12 := (hEG.2 _ (Yj hk12) id).trans hk12
        have rS := partTo_rp hc ev1 ps.length (Nat.le_refl _)
        rw [hP, ← hev, inEv_all, hpl, hsum] at rS
        by_cases hp0 : p = 0
        · have hK0 := kz hp0
          have hPm : P = (Xd ps : Int) := by
            rw [hK0] at rS
            have r1 : Rp (Xd ps) (Xd ps : Int) (1 - 0) := ⟨Nat.pos_of_ne_zero hc.m, by rw [Rat.intCast_natCast]; grind⟩
            have h1 := rS.2
            rw [r1.2] at h1
            exact_mod_cast h1.symm
          subst hp0
          subst hPm
          refine Zk fun M hM => ?_
          refine Ze fun N29 hN29 => ?_
          simp (maxSteps := 2000000) only [↓Za, ↓Zb, ↓Zc, vup, cond_true, cond_false, aop, Zg, ev, sput, Zf, Zz, Ya, Nat.reduceBEq, Int.reduceBEq]
          refine hN29 [(0, u), (1, v), (4, .bool false), (5, s), (6, .int .i64 0), (7, w), (8, .int .i64 0), (9, Zd a), (10, Zd b), (11, .int .i64 0), (12, .pointer (some ⟨p12, 0, none⟩)), (15, Zd (Xd ps : Nat)), (16, Zd (Xd ps : Nat)), (72, .bool false), (141, .bool false), (155, .bool true)] _ _ ?_ (by simp (maxSteps := 2000000) only [vup, cond_true, cond_false, Nat.reduceBEq])
          clear hN29
          try clear N29
          refine Wf rfl ?_
          refine Zj ?_
          have hmm : (((Xd ps : Nat) : Int) == ((Xd ps : Nat) : Int)) = true := by simp
          simp (maxSteps := 2000000) only [↓Za, ↓Zs, ↓Zx, ↓Zb, ↓Zc, ↓vdn, vup, List.map_nil, cond_true, cond_false, aop, Zg, ev, sput, Zf, Zz, Ya, Nat.reduceBEq, Zr, Xo, tup, ab.2, hmm, Yk, List.append_nil]
          exact awake_call.mono fun _ _ h => h.1
        · have hkp : kKp K T ws.length = K := kKp_of xs K T ws.length (by rw [hpp]; exact hp0)
          have hp0' : (p == 0) = false := by rw [beq_eq_false_iff_ne]; exact hp0
          rw [hkp] at k12
          refine Zk fun M hM => ?_
          refine Ze fun N30 hN30 => ?_
          simp (maxSteps := 2000000) only [↓Za, ↓Zb, ↓Zc, vup, cond_true, cond_false, aop, Zg, ev, sput, Zf, Zz, Ya, Nat.reduceBEq, hp0']
          refine hN30 [(0, u), (1, v), (4, .bool false), (5, s), (6, .int .i64 0), (7, w), (8, .int .i64 0), (9, Zd a), (10, Zd b), (11, Zd p), (12, .pointer (some ⟨p12, 0, none⟩)), (15, Zd (Xd ps : Nat)), (16, Zd P), (72, .bool false), (141, .bool false), (155, .bool false)] _ _ ?_ (by simp (maxSteps := 2000000) only [vup, cond_true, cond_false, Nat.reduceBEq])
          clear hN30
          try clear N30
          refine Xa rfl ?_
          refine Zj ?_
          simp (maxSteps := 2000000) only [↓Zo, Zg]
          refine hM [(0, u), (1, v), (4, .bool false), (5, s), (6, .int .i64 0), (7, w), (8, .int .i64 0), (9, Zd a), (10, Zd b), (11, Zd p), (12, .pointer (some ⟨p12, 0, none⟩)), (15, Zd (Xd ps : Nat)), (16, Zd P), (72, .bool false), (141, .bool false)] _ _ ?_ (by simp (maxSteps := 2000000) only [vup, cond_true, cond_false, Nat.reduceBEq])
          clear hM
          try clear M
          obtain ⟨kn, hkn⟩ : ∃ u, K.num = u := ⟨_, rfl⟩
          obtain ⟨z, hz⟩ : ∃ z : Int, (K.den : Int) = z := ⟨_, rfl⟩
          have z1 : 1 ≤ z := by have := K.den_pos; omega
          have z2 : z ≤ 332640 := by omega
          have un : 0 ≤ kn := by rw [← hkn]; exact Rat.num_nonneg.2 u01.1
          have ul : kn ≤ z := by
            have := u01.2
            rw [Rat.le_iff] at this
            rw [← hkn, ← hz]; simpa using this
          rw [hkn, hz] at k12 ke
          have pz : (p * z).natAbs ≤ 60 * 332640 := by rw [Int.natAbs_mul]; exact Nat.mul_le_mul (by omega) (by omega)
          have pzb : (p * z * b).natAbs ≤ 60 * 332640 * 248832 := by rw [Int.natAbs_mul]; exact Nat.mul_le_mul pz (by omega)
          have m1 : mulV .i64 p z = p * z := mulN (by omega)
          have m2 : mulV .i64 (p * z) b = p * z * b := mulN (by omega)
          have m3 : mulV .i64 12 kn = 12 * kn := mulN (by omega)
          have m4 : subV .i64 b a = b - a := subN (by omega)
          have m5 : mulV .i64 (12 * kn) (b - a) = 12 * kn * (b - a) := mulN (by rw [← ke]; omega)
          rw [← ke] at m5
          obtain ⟨X, hX⟩ : ∃ X, p * z * b = X := ⟨_, rfl⟩
          rw [hX] at m2 m5
          refine Ze fun N31 hN31 => ?_
          simp only [q16_32]
          refine Yo [] (by kernel_rfl) (by kernel_rfl) (by kernel_rfl) (by kernel_rfl) ?_
          simp (maxSteps := 2000000) only [↓Zp, ↓vdn, vup, cond_true, cond_false, aop, Zg, ev, sput, Zf, Zz, Ya, Nat.reduceBEq, Nat.reduceAdd, tyf, fA0, fA1, Wk k12, Xu k12, m1, m2, m3, m4, m5]
          refine hN31 [(0, u), (1, v), (4, .bool false), (5, s), (6, .int .i64 0), (7, w), (8, .int .i64 0), (9, Zd a), (10, Zd b), (11, Zd p), (12, .pointer (some ⟨p12, 0, none⟩)), (15, Zd (Xd ps : Nat)), (16, Zd P), (19, Zd X), (20, Zd X), (72, .bool false), (141, .bool false)] _ _ ?_ (by simp (maxSteps := 2000000) only [vup, cond_true, cond_false, Nat.reduceBEq])
          clear hN31
          try clear N31
          refine Zj ?_
          have hXX : (X == X) = true := by simp
          have hXl : X ≤ X := Int.le_refl X
          cases hPm : (P == ((Xd ps : Nat) : Int)) with
          | true =>
            simp (maxSteps := 2000000) only [↓Za, ↓Zs, ↓Zx, ↓Zb, ↓Zc, ↓vdn, vup, List.map_nil, cond_true, cond_false, aop, Zg, ev, sput, Zf, Zz, Ya, Nat.reduceBEq, Zr, Xo, tup, hXl, hPm, Yk, List.append_nil]
            exact awake_call.mono fun _ _ h => h.1
          | false =>
            simp (maxSteps := 2000000) only [↓Za, ↓Zs, ↓Zx, ↓Zb, ↓Zc, ↓vdn, vup, List.map_nil, cond_true, cond_false, aop, Zg, ev, sput, Zf, Zz, Ya, Nat.reduceBEq, Zr, Xo, tup, hXl, hPm, hXX, Yk, List.append_nil]
            exact awake_call.mono fun _ _ h => h.1
  | false =>
    have hc8 : raceB (xs.take 8) (ys.take 8) = false := by
      rw [← Bool.not_eq_true]
      intro c1
      obtain ⟨t1, t2⟩ := race_take c1
      rw [t1, t2, hr] at c1
      cases c1
    obtain rfl := no hc8
    simp (maxSteps := 2000000) only [extr_20, extr_21]
    refine hN2 [(0, u), (1, v), (4, .bool false), (5, .slice none 0 0), (6, .int .i64 2)] _ _ ?_ (by simp (maxSteps := 2000000) only [vup, cond_true, cond_false, Nat.reduceBEq])
    clear hN2
    try clear N2
    refine Zk fun M hM => ?_
    refine Ze fun N32 hN32 => ?_
    simp (maxSteps := 2000000) only [↓Za, ↓Zb, ↓Zc, ↓vdn, vup, cond_true, cond_false, aop, Zg, ev, sput, Zf, Zz, Ya, Nat.reduceBEq, e20]
    refine hN32 [(0, u), (1, v), (4, .bool false), (5, .slice none 0 0), (6, .int .i64 2), (36, .bool true)] _ _ ?_ (by simp (maxSteps := 2000000) only [vup, cond_true, cond_false, Nat.reduceBEq])
    clear hN32
    try clear N32
    refine Wf rfl ?_
    refine Zj ?_
    simp (maxSteps := 2000000) only [↓Za, ↓Zs, ↓Zx, ↓Zb, ↓Zc, ↓vdn, vup, List.map_nil, cond_true, cond_false, aop, Zg, ev, sput, Zf, Zz, Ya, Nat.reduceBEq, Zr, Xo, tup, e22, Yk, List.append_nil]
    exact awake_call.mono fun _ _ h => h.1
end Go.Proofs.Try.Am

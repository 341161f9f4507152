/-
  bets: what stakings are worth.
  bets: the program's Grow.
  bets: scores and averages, in the program and in the reference.
  bets: averages of scores.
  bets: the reference's averages and scores.
  bets: the reference's Grow.
  bets, plain: the staking that grows best: what it leaves and what it is worth.
  bets, plain: what is kept: over the horses that may win, chance divided by what there is.
  bets: equations as they lie in memory.
-/
import Derived.Test.YtcmindinomacbaaPk8
import Derived.Test.YtcmindinomacbaaPk7
import Derived.Test.YtcmindinomacbaaPk5
set_option linter.all false
namespace Go.Proofs.Try.Am
open Go.Am Bq
set_option maxRecDepth 100000
set_option maxHeartbeats 4000000

def Wc (ps : List (Int × Int)) (k : Nat) : Rat := 1 - Yd (fq ps) k
def worthQ (bs : List Int) (ps : List (Int × Int)) (i : Nat) : Rat := Wc ps ps.length + (bs.getD i 0 : Int) * fq ps i
def worthL (bs : List Int) (ps : List (Int × Int)) (k : Nat) : List (Int × Int) := (List.range k).map fun i => ofQ (worthQ bs ps i)
theorem worthL_snoc (bs : List Int) (ps : List (Int × Int)) (k : Nat) : worthL bs ps k ++ [((worthQ bs ps k).num, ((worthQ bs ps k).den : Int))] = worthL bs ps (k + 1) := by
  rw [worthL, worthL, List.range_succ, List.map_append]; rfl
theorem left_facts {ps : List (Int × Int)} (c : Chn ps) (h1 : Yd (fq ps) ps.length ≤ 1) {k : Nat} (hk : k ≤ ps.length) : 0 ≤ Wc ps k ∧ Wc ps k ≤ 1 ∧ (Wc ps k).den ∣ Xd ps := by
  have hu := fun i (hi : i < ps.length) => c.unit hi
  have h2 := sumTo_mono hk fun i hi => (hu i hi).1
  have h3 := Vl (n := k) fun i hi => (hu i (by omega)).1
  refine ⟨by rw [Wc]; grind, by rw [Wc]; grind, ?_⟩
  have h4 : (Yd (fq ps) k).den ∣ Xd ps := sumTo_den (Nat.pos_of_ne_zero c.m) fun i hi => (hu i (by omega)).2.2
  have h5 := add_den_dvd (a := 1) (-1) (Nat.pos_of_ne_zero c.m) (Nat.one_dvd _) h4
  have e : (1 : Rat) + ((-1 : Int) : Rat) * Yd (fq ps) k = Wc ps k := by
    rw [Wc, show (((-1 : Int)) : Rat) = -1 from rfl]; grind
  rwa [e] at h5
theorem left_step (ps : List (Int × Int)) (k : Nat) : Wc ps k + ((-1 : Int) : Rat) * fq ps k = Wc ps (k + 1) := by
  rw [Wc, Wc, Yd, show (((-1 : Int)) : Rat) = -1 from rfl]; grind
theorem getD_ofQ {ps : List (Int × Int)} (hv : Vld ps) {k : Nat} (hk : k < ps.length) : ps.getD k (0, 0) = ((fq ps k).num, ((fq ps k).den : Int)) := (hv _ (Xv hk)).symm
theorem Xq {h h' : Zh} {v : Value} {xs : List Int} (hv : IntSl h v xs) (hE : Ext (fun _ => False) h h') : IntSl h' v xs := hv.same fun b hb => hE.2 b (hv.lt hb) id

theorem s45_callW [Tabs Try.prog] {args : List Value} {h : Zh} {Q : Value → Zh → Prop} (hsz : args.length ≤ 60) (hk : AWS Try.prog 60 s45 (Zr Try.prog [.tmp 6, .tmp 7] Q) (Zt 0 args) h) : ACall Try.prog 45 args h Q :=
  Ym Try.func45 rfl (enters_of Try.func45 (by kernel_rfl) rfl) rfl rfl (by decide) s45_strip s45_ok hsz hk
theorem progWorth_call [Tabs prog] {h : Zh} {u v w : Value} {xs ys : List Int} {ps : List (Int × Int)} (hu : IntSl h u xs) (hv : IntSl h v ys) (hw : PairSl h w ps) (hlx : xs.length < 9223372036854775808) (hly : ys.length < 9223372036854775808) (hlp : ps.length < 9223372036854775808) (hxp : InR ps) :
    ACall prog 45 [u, v, w] h fun r h' => Ext (fun _ => False) h h' ∧ (raceB xs ys = true ∧ ps.length = xs.length ∧ stB ps = true → ∃ s, r = .tuple #[s, .int .i64 0] ∧ PairSl h' s (worthL ys ps ps.length)) ∧ (¬ (raceB xs ys = true ∧ ps.length = xs.length ∧ stB ps = true) → r = .tuple #[.slice none 0 0, .int .i64 2]) := by
  refine s45_callW (by simp) ?_
  simp only [s45]
  refine Ze fun N1 hN1 => ?_
  simp (maxSteps := 2000000) only [↓Za, ↓Zb, ↓Zc, vup, cond_false, aop, Zg, Zt, ev, sput, Zf, Nat.reduceBEq, Nat.reduceAdd]
  refine hN1 [(0, u), (1, v), (2, w), (6, .slice none 0 0), (7, .int .i64 0)] _ _ ?_ (by simp (maxSteps := 2000000) only [vup, cond_true, cond_false, Nat.reduceBEq])
  clear hN1
  try clear N1
  refine Zk fun M hM => ?_
  refine Ze fun N2 hN2 => ?_
  have bad : ¬ (raceB xs ys = true ∧ ps.length = xs.length ∧ stB ps = true) → ∀ e, ELe e [(0, u), (1, v), (2, w), (6, .slice none 0 0), (7, .int .i64 0), (29, .bool true)] → N2 e h := by
    intro hn e he
    refine hN2 _ _ _ ?_ he
    refine Wf rfl ?_
    refine Zj ?_
    simp (maxSteps := 2000000) only [↓Za, ↓Zs, ↓Zx, ↓Zb, ↓Zc, vup, cond_true, cond_false, aop, Zg, ev, sput, Zf, Nat.reduceBEq, Zr, Xo, tup]
    exact ⟨Ext.refl _ _, fun hc => absurd hc hn, fun _ => trivial⟩
  simp (maxSteps := 2000000) only [↓Za, ↓Zc, vup, List.map_cons, List.map_nil, cond_true, cond_false, aop, ev, sput, Zf, unK, Nat.reduceBEq, Yk, List.nil_append, List.append_nil]
  refine (israce_call hu hv hlx hly).mono ?_
  rintro _ h ⟨rfl, rfl⟩
  cases hr : raceB xs ys with
  | false =>
    simp (maxSteps := 2000000) only [↓Zb, ↓Zc, ↓vdn, vup, cond_true, cond_false, aop, Zg, ev, sput, Zf, Nat.reduceBEq]
    exact bad (by simp [hr]) _ (by simp (maxSteps := 2000000) only [vup, cond_true, cond_false, Nat.reduceBEq])
  | true =>
  have rc := race_of hr
  have rl := rc.len
  by_cases hl : ps.length = xs.length
  case neg =>
    have hne : (((ps.length : Nat) : Int) != ((xs.length : Nat) : Int)) = true := by
      have : ¬ ((ps.length : Nat) : Int) = ((xs.length : Nat) : Int) := by omega
      simpa [bne] using this
    simp (maxSteps := 2000000) only [↓Zb, ↓Zc, ↓vdn, vup, List.map_cons, List.map_nil, cond_true, cond_false, aop, Zg, ev, sput, Zf, Zz, Ya, unK, Zi, Nat.reduceBEq, tyf, hw.len, hu.len, hne]
    exact bad (fun hc => hl hc.2.1) _ (by simp (maxSteps := 2000000) only [vup, cond_true, cond_false, Nat.reduceBEq])
  have hne : (((ps.length : Nat) : Int) != ((xs.length : Nat) : Int)) = false := by rw [hl]; simp
  simp (maxSteps := 2000000) only [↓Zb, ↓Zc, ↓vdn, vup, List.map_cons, List.map_nil, cond_true, cond_false, aop, Zg, ev, sput, Zf, Zz, Ya, unK, Zi, Nat.reduceBEq, tyf, Yk, List.nil_append, List.append_nil, hw.len, hu.len, hne]
  refine (isstake_call hw (by omega) hxp).mono ?_
  rintro _ h ⟨rfl, rfl⟩
  cases hs : stB ps with
  | false =>
    simp (maxSteps := 2000000) only [vup]
    exact bad (by simp [hs]) _ (by simp (maxSteps := 2000000) only [vup, cond_true, cond_false, Nat.reduceBEq])
  | true =>
  obtain ⟨c, hsum⟩ := st_of hs
  have hml := (mult_spec c.m).2.2
  have hM0 := Nat.pos_of_ne_zero c.m
  clear bad
  simp (maxSteps := 2000000) only [vup]
  refine hN2 [(0, u), (1, v), (2, w), (6, .slice none 0 0), (7, .int .i64 0), (29, .bool false)] _ _ ?_ (by simp (maxSteps := 2000000) only [vup, cond_true, cond_false, Nat.reduceBEq])
  clear hN2
  try clear N2
  refine Xa rfl ?_
  refine Zj ?_
  simp (maxSteps := 2000000) only [↓Zo, Zg]
  refine hM [(0, u), (1, v), (2, w), (6, .slice none 0 0), (7, .int .i64 0)] _ _ ?_ (by simp (maxSteps := 2000000) only [vup, cond_true, cond_false, Nat.reduceBEq])
  clear hM
  try clear M
  have l0 : Wc ps 0 = ((1 : Int) : Rat) := by rw [Wc, Yd, show (((1 : Int)) : Rat) = 1 from rfl]; grind
  refine Ze fun N3 hN3 => ?_
  simp (maxSteps := 2000000) only [↓Za, ↓Zb, ↓Zc, vup, List.map_cons, List.map_nil, cond_true, cond_false, aop, Zg, ev, sput, Zf, Nat.reduceBEq, Yk, List.nil_append, List.append_nil]
  refine ((show Yv prog 70 [Zd 1] h (qV ((1 : Int) : Rat)) from Wu)).mono ?_
  rintro _ h ⟨rfl, rfl⟩
  rw [← l0]
  simp (maxSteps := 2000000) only [tyf, qV, frV, Xe, Yr, Xk (Zy h z0) rfl, Xn]
  obtain ⟨H0, hH0⟩ : ∃ H0, H0 = h ++ [fC (Wc ps 0).num (Wc ps 0).den] := ⟨_, rfl⟩
  have b8 : H0[h.length]? = some (fC (Wc ps 0).num (Wc ps 0).den) := by rw [hH0]; exact Zy _ _
  have hE0 : Ext (fun _ => False) h H0 := by rw [hH0]; exact Ext.app _ _ _
  rw [← hH0]
  refine hN3 [(0, u), (1, v), (2, w), (6, .slice none 0 0), (7, .int .i64 0), (8, .pointer (some ⟨h.length, 0, none⟩))] _ _ ?_ (by simp (maxSteps := 2000000) only [vup, cond_true, cond_false, Nat.reduceBEq])
  clear hN3
  try clear N3
  obtain ⟨p8, hp8⟩ : ∃ p, h.length = p := ⟨_, rfl⟩
  rw [hp8] at b8 ⊢
  refine Zk fun Z hZ => ?_
  refine Ze fun N4 hN4 => ?_
  simp (maxSteps := 2000000) only [↓Za, ↓Zb, ↓Zc, vup, List.map_cons, List.map_nil, cond_true, cond_false, aop, Zg, ev, sput, Zf, Zi, Nat.reduceBEq, tyf, hw.len]
  refine hN4 [(0, u), (1, v), (2, w), (6, .slice none 0 0), (7, .int .i64 0), (8, .pointer (some ⟨p8, 0, none⟩)), (31, w), (32, Zd ps.length), (33, .int .i64 0)] _ _ ?_ (by simp (maxSteps := 2000000) only [vup, cond_true, cond_false, Nat.reduceBEq])
  clear hN4
  try clear N4
  refine Zl ?_
  refine Zm fun Q hQ => ?_
  refine Yh (γ := Nat × Zh) (fun s => s.1 ≤ ps.length ∧ Ext (fun _ => False) h s.2 ∧ s.2[p8]? = some (fC (Wc ps s.1).num (Wc ps s.1).den))
    (fun s => ([(0, u), (1, v), (2, w), (6, .slice none 0 0), (7, .int .i64 0), (8, .pointer (some ⟨p8, 0, none⟩)), (31, w), (32, Zd ps.length), (33, Zd (s.1 : Nat))], s.2)) (fun s => ps.length - s.1) (0, H0) ⟨Nat.zero_le _, hE0, b8⟩ (by simp (maxSteps := 2000000) only [vup, cond_true, cond_false, Nat.reduceBEq, Int.natCast_zero]) rfl ?_
  rintro ⟨k, hp⟩ ⟨hk, hE, hb⟩
  simp only at hk hE hb
  refine Zm fun Q2 hQ2 => ?_
  simp only [l45_0]
  have hwp := hw.ext hE
  by_cases hin : (k : Int) < ps.length
  · have hk' : k < ps.length := by omega
    have hxy := getD_ofQ c.vld hk'
    obtain ⟨u1, u2, u3⟩ := c.unit hk'
    obtain ⟨f1, f2, f3⟩ := left_facts c hsum hk
    have pc := fun h' : Zh => plus_fits (h := h') (a := Wc ps k) (b := fq ps k) (k := -1) (A := 1) (B := 1) hM0 (by omega) f3 u3 (Rat.le_trans (by decide) f1) f2 (Rat.le_trans (by decide) u1) u2 (by simp; omega)
    rw [left_step] at pc
    obtain ⟨q, hq⟩ : ∃ q, fq ps k = q := ⟨_, rfl⟩
    obtain ⟨s, hs2⟩ : ∃ s, Wc ps k = s := ⟨_, rfl⟩
    obtain ⟨t, ht⟩ : ∃ t, Wc ps (k + 1) = t := ⟨_, rfl⟩
    rw [hq] at hxy pc
    rw [hs2] at pc hb
    rw [ht] at pc
    refine Ze fun N5 hN5 => ?_
    simp (maxSteps := 2000000) only [↓Za, ↓Zb, ↓Zc, vup, cond_true, cond_false, aop, Zg, ev, sput, Zf, Zz, Ya, Nat.reduceBEq, hin]
    refine hN5 [(0, u), (1, v), (2, w), (6, .slice none 0 0), (7, .int .i64 0), (8, .pointer (some ⟨p8, 0, none⟩)), (31, w), (32, Zd ps.length), (33, Zd (k : Nat)), (34, .bool true)] _ _ ?_ (by simp (maxSteps := 2000000) only [vup, cond_true, cond_false, Nat.reduceBEq])
    clear hN5
    try clear N5
    refine Ze fun N6 hN6 => ?_
    simp (maxSteps := 2000000) only [↓Zo, ↓vdn, vup, cond_true, cond_false, Zg, ev, Nat.reduceBEq]
    refine hN6 [(0, u), (1, v), (2, w), (6, .slice none 0 0), (7, .int .i64 0), (8, .pointer (some ⟨p8, 0, none⟩)), (31, w), (32, Zd ps.length), (33, Zd (k : Nat))] _ _ ?_ (by simp (maxSteps := 2000000) only [vup, cond_true, cond_false, Nat.reduceBEq])
    clear hN6
    try clear N6
    obtain ⟨H, hH⟩ : ∃ H, H = hp ++ [fC q.num q.den] := ⟨_, rfl⟩
    have b10 : H[hp.length]? = some (fC q.num q.den) := by rw [hH]; exact Zy _ _
    have hbH : H[p8]? = some (fC s.num s.den) := by rw [hH]; exact Xg hb _
    have hEH : Ext (fun _ => False) h H := by rw [hH]; exact hE.trans (Ext.app _ _ _)
    refine Zk fun B hB => ?_
    refine Zl ?_
    refine Ze fun N7 hN7 => ?_
    simp (maxSteps := 2000000) only [↓Za, ↓Zb, ↓Zc, vup, cond_true, cond_false, aop, Zg, ev, sput, Zf, Nat.reduceBEq, tyf, hwp.idx Vo Xw hk', hwp.load Wv hk', hxy, Xe, Yr, Xk (Zy hp z0) rfl, Xn]
    rw [← hH]
    refine hN7 [(0, u), (1, v), (2, w), (6, .slice none 0 0), (7, .int .i64 0), (8, .pointer (some ⟨p8, 0, none⟩)), (10, .pointer (some ⟨hp.length, 0, none⟩)), (31, w), (32, Zd ps.length), (33, Zd (k : Nat))] _ _ ?_ (by simp (maxSteps := 2000000) only [vup, cond_true, cond_false, Nat.reduceBEq])
    clear hN7
    try clear N7
    refine Zj ?_
    simp (maxSteps := 2000000) only [↓Za, ↓Zb, ↓Zc, vup, List.map_cons, List.map_nil, cond_true, cond_false, aop, Zg, Zn, ev, sput, Zf, Nat.reduceBEq, Yk, List.nil_append, List.append_nil, Ws hbH, Ws b10]
    refine (pc H).mono ?_
    rintro _ H ⟨rfl, rfl⟩
    simp (maxSteps := 2000000) only [qV, frV, Xk hbH rfl]
    refine hB [(0, u), (1, v), (2, w), (6, .slice none 0 0), (7, .int .i64 0), (8, .pointer (some ⟨p8, 0, none⟩)), (31, w), (32, Zd ps.length), (33, Zd (k : Nat))] _ _ ?_ (by simp (maxSteps := 2000000) only [vup, cond_true, cond_false, Nat.reduceBEq])
    clear hB
    try clear B
    refine Zj ?_
    simp (maxSteps := 2000000) only [↓Za, ↓Zb, ↓Zc, vup, cond_true, cond_false, aop, ev, sput, Zf, Zz, Ya, Nat.reduceBEq, add1 (show k < 9223372036854775807 by omega)]
    exact hQ2 _ _ _ ⟨(k + 1, H.set p8 (fC t.num t.den)), ⟨hk', hEH.set_ge (by omega) _, by simp only; rw [Xs (Yj hbH), ht]⟩, by simp only; omega, by simp (maxSteps := 2000000) only [vup, cond_true, cond_false, Nat.reduceBEq], rfl⟩
  · obtain rfl : k = ps.length := by omega
    refine Ze fun N8 hN8 => ?_
    simp (maxSteps := 2000000) only [↓Za, ↓Zb, ↓Zc, vup, cond_true, cond_false, aop, Zg, ev, sput, Zf, Zz, Ya, Nat.reduceBEq, hin]
    refine hN8 [(0, u), (1, v), (2, w), (6, .slice none 0 0), (7, .int .i64 0), (8, .pointer (some ⟨p8, 0, none⟩)), (31, w), (32, Zd ps.length), (33, Zd ps.length), (34, .bool false)] _ _ ?_ (by simp (maxSteps := 2000000) only [vup, cond_true, cond_false, Nat.reduceBEq])
    clear hN8
    try clear N8
    refine Ze fun N9 hN9 => ?_
    simp (maxSteps := 2000000) only [↓Yn, ↓vdn, vup, cond_true, cond_false, Zg, ev, Nat.reduceBEq]
    refine hQ2 _ _ _ (hQ _ _ _ ?_)
    simp (maxSteps := 2000000) only [Zg, Zn, Zr, if_true]
    refine hZ [(0, u), (1, v), (2, w), (6, .slice none 0 0), (7, .int .i64 0), (8, .pointer (some ⟨p8, 0, none⟩)), (34, .bool false)] _ _ ?_ (by simp (maxSteps := 2000000) only [vup, cond_true, cond_false, Nat.reduceBEq])
    clear hZ
    try clear Z
    refine Ze fun N10 hN10 => ?_
    simp (maxSteps := 2000000) only [↓Za, ↓Zb, ↓Zc, vup, cond_false, aop, Zg, ev, sput, Zf, Nat.reduceBEq]
    refine hN10 [(0, u), (1, v), (2, w), (6, .slice none 0 0), (7, .int .i64 0), (8, .pointer (some ⟨p8, 0, none⟩)), (11, .slice none 0 0), (34, .bool false)] _ _ ?_ (by simp (maxSteps := 2000000) only [vup, cond_true, cond_false, Nat.reduceBEq])
    clear hN10
    try clear N10
    obtain ⟨f1, f2, f3⟩ := left_facts c hsum (Nat.le_refl ps.length)
    obtain ⟨s, hs2⟩ : ∃ s, Wc ps ps.length = s := ⟨_, rfl⟩
    rw [hs2] at hb f1 f2 f3
    have hvp0 := Xq hv hE
    refine Zk fun Z hZ => ?_
    refine Ze fun N11 hN11 => ?_
    simp (maxSteps := 2000000) only [↓Za, ↓Zb, ↓Zc, vup, List.map_cons, List.map_nil, cond_true, cond_false, aop, Zg, ev, sput, Zf, Zi, Nat.reduceBEq, tyf, hwp.len]
    refine hN11 [(0, u), (1, v), (2, w), (6, .slice none 0 0), (7, .int .i64 0), (8, .pointer (some ⟨p8, 0, none⟩)), (11, .slice none 0 0), (34, .bool false), (41, w), (42, Zd ps.length), (43, .int .i64 0)] _ _ ?_ (by simp (maxSteps := 2000000) only [vup, cond_true, cond_false, Nat.reduceBEq])
    clear hN11
    try clear N11
    refine Zl ?_
    refine Zm fun Q hQ => ?_
    refine Yh (γ := Nat × Value × Zh) (fun s => s.1 ≤ ps.length ∧ OwnP 26 s.2.2 s.2.1 (worthL ys ps s.1) ∧ Ext (fun _ => False) hp s.2.2 ∧ ∀ b, Yg s.2.1 = some b → hp.length ≤ b)
      (fun s => ([(0, u), (1, v), (2, w), (6, .slice none 0 0), (7, .int .i64 0), (8, .pointer (some ⟨p8, 0, none⟩)), (11, s.2.1), (34, .bool false), (41, w), (42, Zd ps.length), (43, Zd (s.1 : Nat))], s.2.2)) (fun s => ps.length - s.1) (0, .slice none 0 0, hp) ⟨Nat.zero_le _, .inl ⟨rfl, rfl⟩, Ext.refl _ _, fun b hb => by cases hb⟩ (by simp (maxSteps := 2000000) only [vup, cond_true, cond_false, Nat.reduceBEq, Int.natCast_zero]) rfl ?_
    rintro ⟨k, x, hq⟩ ⟨hk, ho, hEq, hbx⟩
    simp only at hk ho hEq hbx
    refine Zm fun Q2 hQ2 => ?_
    simp only [l45_1]
    by_cases hin : (k : Int) < ps.length
    · have hk' : k < ps.length := by omega
      have hky : k < ys.length := by have := rc.eq; omega
      have hwq := hwp.ext hEq
      have hvq := Xq hvp0 hEq
      have hxy := getD_ofQ c.vld hk'
      obtain ⟨u1, u2, u3⟩ := c.unit hk'
      obtain ⟨y, hy⟩ : ∃ y, ys.getD k 0 = y := ⟨_, rfl⟩
      have yb := rc.b k hky
      rw [hy] at yb
      have wq : worthQ ys ps k = s + (y : Int) * fq ps k := by rw [worthQ, hs2, hy]
      have pc := fun h' : Zh => plus_fits (h := h') (a := s) (b := fq ps k) (k := y) (A := 1) (B := 1) hM0 (by omega) f3 u3 (Rat.le_trans (by decide) f1) f2 (Rat.le_trans (by decide) u1) u2 (by
        have hyn : y.natAbs ≤ 12 := by omega
        have := Nat.mul_le_mul (show 1 + y.natAbs * 1 ≤ 13 by omega) hml
        omega)
      rw [← wq] at pc
      obtain ⟨q, hq1⟩ : ∃ q, fq ps k = q := ⟨_, rfl⟩
      rw [hq1] at hxy pc
      have sn := worthL_snoc ys ps k
      obtain ⟨t, ht⟩ : ∃ t, worthQ ys ps k = t := ⟨_, rfl⟩
      rw [ht] at pc sn
      refine Ze fun N12 hN12 => ?_
      simp (maxSteps := 2000000) only [↓Za, ↓Zb, ↓Zc, vup, cond_true, cond_false, aop, Zg, ev, sput, Zf, Zz, Ya, Nat.reduceBEq, hin]
      refine hN12 [(0, u), (1, v), (2, w), (6, .slice none 0 0), (7, .int .i64 0), (8, .pointer (some ⟨p8, 0, none⟩)), (11, x), (34, .bool false), (41, w), (42, Zd ps.length), (43, Zd (k : Nat)), (44, .bool true)] _ _ ?_ (by simp (maxSteps := 2000000) only [vup, cond_true, cond_false, Nat.reduceBEq])
      clear hN12
      try clear N12
      refine Ze fun N13 hN13 => ?_
      simp (maxSteps := 2000000) only [↓Zo, ↓vdn, vup, cond_true, cond_false, Zg, ev, Nat.reduceBEq]
      refine hN13 [(0, u), (1, v), (2, w), (6, .slice none 0 0), (7, .int .i64 0), (8, .pointer (some ⟨p8, 0, none⟩)), (11, x), (34, .bool false), (41, w), (42, Zd ps.length), (43, Zd (k : Nat))] _ _ ?_ (by simp (maxSteps := 2000000) only [vup, cond_true, cond_false, Nat.reduceBEq])
      clear hN13
      try clear N13
      obtain ⟨H, hH⟩ : ∃ H, H = hq ++ [fC q.num q.den] := ⟨_, rfl⟩
      have b13 : H[hq.length]? = some (fC q.num q.den) := by rw [hH]; exact Zy _ _
      have hb8 : H[p8]? = some (fC s.num s.den) := by rw [hH]; exact Xg ((hEq.2 _ (Yj hb) id).trans hb) _
      have hEH : Ext (fun _ => False) hp H := by rw [hH]; exact hEq.trans (Ext.app _ _ _)
      have hoH : OwnP 26 H x (worthL ys ps k) := by rw [hH]; exact ho.ext (Ext.app _ _ _)
      have hvH := Xq hvp0 hEH
      refine Zk fun B hB => ?_
      refine Zl ?_
      refine Ze fun N14 hN14 => ?_
      simp (maxSteps := 2000000) only [↓Za, ↓Zb, ↓Zc, vup, cond_true, cond_false, aop, Zg, ev, sput, Zf, Nat.reduceBEq, tyf, hwq.idx Vo Xw hk', hwq.load Wv hk', hxy, Xe, Yr, Xk (Zy hq z0) rfl, Xn]
      rw [← hH]
      refine hN14 [(0, u), (1, v), (2, w), (6, .slice none 0 0), (7, .int .i64 0), (8, .pointer (some ⟨p8, 0, none⟩)), (11, x), (12, Zd (k : Nat)), (13, .pointer (some ⟨hq.length, 0, none⟩)), (34, .bool false), (41, w), (42, Zd ps.length), (43, Zd (k : Nat))] _ _ ?_ (by simp (maxSteps := 2000000) only [vup, cond_true, cond_false, Nat.reduceBEq])
      clear hN14
      try clear N14
      have pcH := pc H
      refine Zj ?_
      simp only [q45_13]
      refine Yo [(7, 1)] (by kernel_rfl) (by kernel_rfl) (by kernel_rfl) (by kernel_rfl) ?_
      refine Wa 8 rfl fun N1 hN1 => ?_
      simp (maxSteps := 2000000) only [↓Zp, ↓vdn, vup, List.map_cons, List.map_nil, cond_true, cond_false, aop, ev, sput, Zf, Nat.reduceBEq, Nat.reduceAdd, List.take_succ_cons, List.take_zero, Ws hb8, Ws b13, hvH.idx Wb Xt hky, hvH.load Xl hky, hy, Yk, List.nil_append, List.append_nil]
      refine ⟨_, _, pcH, rfl, ?_⟩
      refine hN1 _ _ ?_
      clear hN1 N1
      simp (maxSteps := 2000000) only [↓Zp, ↓vdn, vup, List.map_cons, List.map_nil, cond_true, cond_false, aop, Zg, Zn, ev, sput, Zf, Zi, Nat.reduceBEq, Nat.reduceAdd, List.drop_succ_cons, List.drop_zero, qV, frV, litF]
      refine OwnP.append (x := t.num) (y := t.den) (hoH.ext (Ext.app _ _ _)) app_47_47 (by simp [worthL]; omega) (Zy _ _) ?_
      intro x' h' ho' hE' hb'
      rw [sn] at ho'
      have hEn := ext_app hEH (H' := H ++ [Blk.ints [t.num, (t.den : Int)] 26 false]) (by simp) (fun z hz => List.getElem?_append_left (by have := hEH.1; omega)) hbx hE'
      refine hB [(0, u), (1, v), (2, w), (6, .slice none 0 0), (7, .int .i64 0), (8, .pointer (some ⟨p8, 0, none⟩)), (11, x'), (34, .bool false), (41, w), (42, Zd ps.length), (43, Zd (k : Nat))] _ _ ?_ (by simp (maxSteps := 2000000) only [vup, cond_true, cond_false, Nat.reduceBEq])
      clear hB
      try clear B
      refine Zj ?_
      simp (maxSteps := 2000000) only [↓Za, ↓Zb, ↓Zc, vup, cond_true, cond_false, aop, ev, sput, Zf, Zz, Ya, Nat.reduceBEq, add1 (show k < 9223372036854775807 by omega)]
      refine hQ2 _ _ _ ⟨(k + 1, x', h'), ⟨hk', ho', hEn, fun b hb0 => ?_⟩, by simp only; omega, by simp (maxSteps := 2000000) only [vup, cond_true, cond_false, Nat.reduceBEq], rfl⟩
      simp only at hb0
      rcases hb' with hb' | ⟨b', hb1, hb2⟩
      · exact hbx b (hb' ▸ hb0)
      · rw [hb1] at hb0; cases hb0
        rw [List.length_append] at hb2
        have := hEH.1; omega
    · obtain rfl : k = ps.length := by omega
      refine Ze fun N15 hN15 => ?_
      simp (maxSteps := 2000000) only [↓Za, ↓Zb, ↓Zc, vup, cond_true, cond_false, aop, Zg, ev, sput, Zf, Zz, Ya, Nat.reduceBEq, hin]
      refine hN15 [(0, u), (1, v), (2, w), (6, .slice none 0 0), (7, .int .i64 0), (8, .pointer (some ⟨p8, 0, none⟩)), (11, x), (34, .bool false), (41, w), (42, Zd ps.length), (43, Zd ps.length), (44, .bool false)] _ _ ?_ (by simp (maxSteps := 2000000) only [vup, cond_true, cond_false, Nat.reduceBEq])
      clear hN15
      try clear N15
      refine Ze fun N16 hN16 => ?_
      simp (maxSteps := 2000000) only [↓Yn, ↓vdn, vup, cond_true, cond_false, Zg, ev, Nat.reduceBEq]
      refine hQ2 _ _ _ (hQ _ _ _ ?_)
      simp (maxSteps := 2000000) only [Zg, Zn, Zr, if_true]
      refine hZ [(0, u), (1, v), (2, w), (6, .slice none 0 0), (7, .int .i64 0), (8, .pointer (some ⟨p8, 0, none⟩)), (11, x), (34, .bool false), (44, .bool false)] _ _ ?_ (by simp (maxSteps := 2000000) only [vup, cond_true, cond_false, Nat.reduceBEq])
      clear hZ
      try clear Z
      refine Zj ?_
      simp (maxSteps := 2000000) only [↓Za, ↓Zs, ↓Zx, ↓Zb, ↓Zc, vup, cond_true, cond_false, aop, Zg, ev, sput, Zf, Nat.reduceBEq, Zr, Xo, tup]
      exact ⟨hE.trans hEq, fun _ => ⟨_, rfl, ho.pair⟩, fun hn => absurd ⟨hr, hl, hs⟩ hn⟩
end Go.Proofs.Try.Am

namespace Go.Proofs.Try.Am
open Go.Am Bq
set_option maxRecDepth 100000
set_option maxHeartbeats 4000000

/-- Where the growing ends. -/
structure GrowP (xs ys : List Int) (L : List Nat) (k : Nat) : Prop where
  perm : L.Perm (List.range xs.length)
  srt : L.Pairwise fun a b => gKey xs ys a ≤ gKey xs ys b
  le : k ≤ xs.length
  cond : ∀ j, j < k → gK xs ys L j < gVv xs ys (L.getD j 0)
  stop : k = xs.length ∨ ¬ gK xs ys L k < gVv xs ys (L.getD k 0)
theorem iL_range (n : Nat) : iL (List.range n) ++ [((n : Nat) : Int)] = iL (List.range (n + 1)) := by
  rw [iL, iL, List.range_succ, List.map_append]; rfl
theorem ownExt {e : TypeId} {h0 H H' h' : Zh} {v v' : Value} (hE : Ext (fun _ => False) h0 H) (hb : ∀ b, Yg v = some b → h0.length ≤ b) (g : List Blk) (hE' : Ext (fun i => Yg v = some i) (H ++ g) h') (hb' : Yg v' = Yg v ∨ ∃ b, Yg v' = some b ∧ (H ++ g).length ≤ b) : Ext (fun _ => False) h0 h' ∧ ∀ b, Yg v' = some b → h0.length ≤ b := by
  have hl' := hE'.1
  have l1 := hE.1
  rw [List.length_append] at hl'
  refine ⟨⟨by omega, fun q hq _ => ?_⟩, fun b hb0 => ?_⟩
  · rw [hE'.2 q (by rw [List.length_append]; omega) (fun hb0 => by have := hb q hb0; omega), List.getElem?_append_left (by omega)]
    exact hE.2 q hq id
  · rcases hb' with hb' | ⟨b', hb1, hb2⟩
    · exact hb b (hb' ▸ hb0)
    · rw [hb1] at hb0; cases hb0
      rw [List.length_append] at hb2
      omega
theorem boxI [Tabs prog] {h : Zh} {v : Value} {xs : List Int} (hv : IntSl h v xs) {K : Value → Zh → Prop} : boxK prog h 38 v K = K (Yr h) (h ++ [.cells [v] 38 false]) := by
  rcases hv with ⟨rfl, rfl⟩ | ⟨b, o, sp, cap, c, e, ro, rfl, _⟩ <;> simp [boxK, esz_38, Yr, cellsOf]

theorem growL_zero (xs ys : List Int) (L : List Nat) (K : Rat) : Wo xs ys L K 0 = List.replicate xs.length ((0 : Int), (1 : Int)) := by
  rw [Wo, List.eq_replicate_iff]
  refine ⟨by simp, fun p hp => ?_⟩
  obtain ⟨i, _, rfl⟩ := List.mem_map.1 hp
  rw [Vg, tkS, Nat.zero_testBit, if_neg (by simp)]
  rfl
theorem growL_step {xs ys : List Int} {L : List Nat} {K : Rat} {j x : Nat} (hx : L.getD j 0 = x) : (Wo xs ys L K j).set x (ofQ (gVa xs x + ((-1 : Int) : Rat) * (K * gVb ys x))) = Wo xs ys L K (j + 1) := by
  have hb : ∀ i, i ≠ x → (tkS L (j + 1)).testBit i = (tkS L j).testBit i := fun i hi => by
    rw [tkS, Nat.testBit_or, Nat.testBit_two_pow, hx, decide_eq_false (Ne.symm hi), Bool.or_false]
  have hbx : (tkS L (j + 1)).testBit x = true := by rw [tkS_bit]; exact ⟨j, by omega, hx⟩
  refine List.ext_getElem (by simp [Wo]) fun i h1 h2 => ?_
  rw [List.getElem_set]
  simp only [Wo, List.getElem_map, List.getElem_range]
  by_cases hi : x = i
  · subst hi
    rw [if_pos rfl, Vg, hbx, if_pos rfl]
  · rw [if_neg hi, Vg, Vg, hb i (Ne.symm hi)]

theorem s55_callW [Tabs Try.prog] {args : List Value} {h : Zh} {Q : Value → Zh → Prop} (hsz : args.length ≤ 107) (hk : AWS Try.prog 107 s55 (Zr Try.prog [.tmp 4, .tmp 5] Q) (Zt 0 args) h) : ACall Try.prog 55 args h Q :=
  Ym Try.func55 rfl (enters_of Try.func55 (by kernel_rfl) rfl) rfl rfl (by decide) s55_strip s55_ok hsz hk
theorem progGrow_call [Tabs prog] {h : Zh} {u v : Value} {xs ys : List Int} (hu : IntSl h u xs) (hv : IntSl h v ys) (hlx : xs.length < 9223372036854775808) (hly : ys.length < 9223372036854775808) :
    ACall prog 55 [u, v] h fun r h' => Ext (fun _ => False) h h' ∧ (raceB xs ys = true → ∃ L k s, GrowP xs ys L k ∧ r = .tuple #[s, .int .i64 0] ∧ PairSl h' s (Wo xs ys L (gK xs ys L k) k)) ∧ (raceB xs ys = false → r = .tuple #[.slice none 0 0, .int .i64 2]) := by
  refine s55_callW (by simp) ?_
  simp only [s55]
  obtain ⟨H, hH⟩ : ∃ H, H = h ++ [Blk.cells [u] 38 false] ++ [Blk.cells [v] 38 false] := ⟨_, rfl⟩
  have hE : Ext (fun _ => False) h H := by rw [hH]; exact (Ext.app _ _ _).trans (Ext.app _ _ _)
  have b2 : H[h.length]? = some (.cells [u] 38 false) := by rw [hH]; exact Xg (Zy _ _) _
  have b3 : H[h.length + 1]? = some (.cells [v] 38 false) := by
    rw [hH]; have := Zy (h ++ [Blk.cells [u] 38 false]) (Blk.cells [v] 38 false)
    rw [List.length_append, List.length_singleton] at this; exact this
  have huH := Xq hu hE
  have hvH := Xq hv hE
  have hv1 : IntSl (h ++ [Blk.cells [u] 38 false]) v ys := hv.grow _
  refine Ze fun N1 hN1 => ?_
  simp (maxSteps := 2000000) only [↓Za, ↓Zb, ↓Zc, vup, cond_true, cond_false, aop, Zg, Zt, ev, sput, Zf, Nat.reduceBEq, Nat.reduceAdd, boxI hu, boxI hv1, Yr, List.length_append, List.length_singleton]
  rw [← hH]
  refine hN1 [(0, u), (1, v), (2, .pointer (some ⟨h.length, 0, none⟩)), (3, .pointer (some ⟨h.length + 1, 0, none⟩)), (4, .slice none 0 0), (5, .int .i64 0)] _ _ ?_ (by simp (maxSteps := 2000000) only [vup, cond_true, cond_false, Nat.reduceBEq])
  clear hN1
  try clear N1
  obtain ⟨p2, hp2⟩ : ∃ p, h.length = p := ⟨_, rfl⟩
  rw [hp2] at b2 b3 ⊢
  clear hH hv1
  refine Zk fun M hM => ?_
  refine Ze fun N2 hN2 => ?_
  simp (maxSteps := 2000000) only [↓Za, ↓Zb, ↓Zc, vup, List.map_cons, List.map_nil, cond_true, cond_false, aop, Zg, ev, sput, Zf, unK, Nat.reduceBEq, Yk, List.nil_append, List.append_nil, load1 b2 Vb, load1 b3 Vb]
  refine (israce_call huH hvH hlx hly).mono ?_
  rintro _ H ⟨rfl, rfl⟩
  simp (maxSteps := 2000000) only []
  refine hN2 [(0, u), (1, v), (2, .pointer (some ⟨p2, 0, none⟩)), (3, .pointer (some ⟨p2 + 1, 0, none⟩)), (4, .slice none 0 0), (5, .int .i64 0), (20, .bool (!raceB xs ys))] _ _ ?_ (by simp (maxSteps := 2000000) only [vup, cond_true, cond_false, Nat.reduceBEq])
  clear hN2
  try clear N2
  cases hr : raceB xs ys with
  | false =>
    refine Wf rfl ?_
    refine Zj ?_
    simp (maxSteps := 2000000) only [↓Za, ↓Zs, ↓Zx, ↓Zb, ↓Zc, vup, cond_true, cond_false, aop, Zg, ev, sput, Zf, Nat.reduceBEq, Zr, Xo, tup]
    refine ⟨hE, ?_, ?_⟩ <;> simp
  | true =>
  have rc := race_of hr
  have rl := rc.len
  have re := rc.eq
  refine Xa rfl ?_
  refine Zj ?_
  simp (maxSteps := 2000000) only [↓Zo, vup, Zg]
  refine hM [(0, u), (1, v), (2, .pointer (some ⟨p2, 0, none⟩)), (3, .pointer (some ⟨p2 + 1, 0, none⟩)), (4, .slice none 0 0), (5, .int .i64 0)] _ _ ?_ (by simp (maxSteps := 2000000) only [vup, cond_true, cond_false, Nat.reduceBEq])
  clear hM
  try clear M
  refine Ze fun N3 hN3 => ?_
  simp (maxSteps := 2000000) only [↓Za, ↓Zb, ↓Zc, vup, cond_false, aop, Zg, ev, sput, Zf, Nat.reduceBEq]
  refine hN3 [(0, u), (1, v), (2, .pointer (some ⟨p2, 0, none⟩)), (3, .pointer (some ⟨p2 + 1, 0, none⟩)), (4, .slice none 0 0), (5, .int .i64 0), (6, .slice none 0 0)] _ _ ?_ (by simp (maxSteps := 2000000) only [vup, cond_true, cond_false, Nat.reduceBEq])
  clear hN3
  try clear N3
  refine Zk fun Z hZ => ?_
  refine Ze fun N4 hN4 => ?_
  simp (maxSteps := 2000000) only [↓Za, ↓Zb, ↓Zc, vup, List.map_cons, List.map_nil, cond_true, cond_false, aop, Zg, ev, sput, Zf, Zi, Nat.reduceBEq, tyf, load1 b2 Vb, huH.len]
  refine hN4 [(0, u), (1, v), (2, .pointer (some ⟨p2, 0, none⟩)), (3, .pointer (some ⟨p2 + 1, 0, none⟩)), (4, .slice none 0 0), (5, .int .i64 0), (6, .slice none 0 0), (21, u), (22, Zd xs.length), (23, .int .i64 0)] _ _ ?_ (by simp (maxSteps := 2000000) only [vup, cond_true, cond_false, Nat.reduceBEq])
  clear hN4
  try clear N4
  refine Zl ?_
  refine Zm fun Q hQ => ?_
  refine Yh (γ := Nat × Value × Zh) (fun s => s.1 ≤ xs.length ∧ OwnSl 3 s.2.2 s.2.1 (iL (List.range s.1)) ∧ Ext (fun _ => False) H s.2.2 ∧ ∀ b, Yg s.2.1 = some b → H.length ≤ b)
    (fun s => ([(0, u), (1, v), (2, .pointer (some ⟨p2, 0, none⟩)), (3, .pointer (some ⟨p2 + 1, 0, none⟩)), (4, .slice none 0 0), (5, .int .i64 0), (6, s.2.1), (21, u), (22, Zd xs.length), (23, Zd (s.1 : Nat))], s.2.2)) (fun s => xs.length - s.1) (0, .slice none 0 0, H) ⟨Nat.zero_le _, .inl ⟨rfl, rfl⟩, Ext.refl _ _, fun b hb => by cases hb⟩ (by simp (maxSteps := 2000000) only [vup, cond_true, cond_false, Nat.reduceBEq, Int.natCast_zero]) rfl ?_
  rintro ⟨k, x, hp⟩ ⟨hk, ho, hEp, hbx⟩
  simp only at hk ho hEp hbx
  refine Zm fun Q2 hQ2 => ?_
  simp only [l55_0]
  by_cases hin : (k : Int) < xs.length
  · have hk' : k < xs.length := by omega
    refine Ze fun N5 hN5 => ?_
    simp (maxSteps := 2000000) only [↓Za, ↓Zb, ↓Zc, vup, cond_true, cond_false, aop, Zg, ev, sput, Zf, Zz, Ya, Nat.reduceBEq, hin]
    refine hN5 [(0, u), (1, v), (2, .pointer (some ⟨p2, 0, none⟩)), (3, .pointer (some ⟨p2 + 1, 0, none⟩)), (4, .slice none 0 0), (5, .int .i64 0), (6, x), (21, u), (22, Zd xs.length), (23, Zd (k : Nat)), (24, .bool true)] _ _ ?_ (by simp (maxSteps := 2000000) only [vup, cond_true, cond_false, Nat.reduceBEq])
    clear hN5
    try clear N5
    refine Ze fun N6 hN6 => ?_
    simp (maxSteps := 2000000) only [↓Zo, ↓vdn, vup, cond_true, cond_false, Zg, ev, Nat.reduceBEq]
    refine hN6 [(0, u), (1, v), (2, .pointer (some ⟨p2, 0, none⟩)), (3, .pointer (some ⟨p2 + 1, 0, none⟩)), (4, .slice none 0 0), (5, .int .i64 0), (6, x), (21, u), (22, Zd xs.length), (23, Zd (k : Nat))] _ _ ?_ (by simp (maxSteps := 2000000) only [vup, cond_true, cond_false, Nat.reduceBEq])
    clear hN6
    try clear N6
    refine Zk fun B hB => ?_
    refine Zl ?_
    refine Ze fun N7 hN7 => ?_
    simp (maxSteps := 2000000) only [↓Za, ↓Zb, ↓Zc, vup, cond_true, cond_false, aop, Zg, ev, sput, Zf, Nat.reduceBEq]
    refine hN7 [(0, u), (1, v), (2, .pointer (some ⟨p2, 0, none⟩)), (3, .pointer (some ⟨p2 + 1, 0, none⟩)), (4, .slice none 0 0), (5, .int .i64 0), (6, x), (7, Zd (k : Nat)), (21, u), (22, Zd xs.length), (23, Zd (k : Nat))] _ _ ?_ (by simp (maxSteps := 2000000) only [vup, cond_true, cond_false, Nat.reduceBEq])
    clear hN7
    try clear N7
    refine Zj ?_
    simp (maxSteps := 2000000) only [↓Za, ↓Zb, ↓Zc, vup, List.map_cons, List.map_nil, cond_true, cond_false, aop, Zg, Zn, ev, sput, Zf, Zi, Nat.reduceBEq, litI1]
    refine OwnSl.append (x := (k : Int)) (ho.ext (S := fun _ => False) (Ext.app _ _ _) (fun _ _ => id)) app_38_38 (by simp; omega) (Zy _ _) ?_
    intro x' h' ho' hE' hb'
    rw [iL_range] at ho'
    obtain ⟨hEn, hbn⟩ := ownExt (e := 3) (H' := hp) hEp hbx _ hE' hb'
    refine hB [(0, u), (1, v), (2, .pointer (some ⟨p2, 0, none⟩)), (3, .pointer (some ⟨p2 + 1, 0, none⟩)), (4, .slice none 0 0), (5, .int .i64 0), (6, x'), (21, u), (22, Zd xs.length), (23, Zd (k : Nat))] _ _ ?_ (by simp (maxSteps := 2000000) only [vup, cond_true, cond_false, Nat.reduceBEq])
    clear hB
    try clear B
    refine Zj ?_
    simp (maxSteps := 2000000) only [↓Za, ↓Zb, ↓Zc, vup, cond_true, cond_false, aop, ev, sput, Zf, Zz, Ya, Nat.reduceBEq, add1 (show k < 9223372036854775807 by omega)]
    exact hQ2 _ _ _ ⟨(k + 1, x', h'), ⟨hk', ho', hEn, hbn⟩, by simp only; omega, by simp (maxSteps := 2000000) only [vup, cond_true, cond_false, Nat.reduceBEq], rfl⟩
  · obtain rfl : k = xs.length := by omega
    refine Ze fun N8 hN8 => ?_
    simp (maxSteps := 2000000) only [↓Za, ↓Zb, ↓Zc, vup, cond_true, cond_false, aop, Zg, ev, sput, Zf, Zz, Ya, Nat.reduceBEq, hin]
    refine hN8 [(0, u), (1, v), (2, .pointer (some ⟨p2, 0, none⟩)), (3, .pointer (some ⟨p2 + 1, 0, none⟩)), (4, .slice none 0 0), (5, .int .i64 0), (6, x), (21, u), (22, Zd xs.length), (23, Zd xs.length), (24, .bool false)] _ _ ?_ (by simp (maxSteps := 2000000) only [vup, cond_true, cond_false, Nat.reduceBEq])
    clear hN8
    try clear N8
    refine Ze fun N9 hN9 => ?_
    simp (maxSteps := 2000000) only [↓Yn, ↓vdn, vup, cond_true, cond_false, Zg, ev, Nat.reduceBEq]
    refine hQ2 _ _ _ (hQ _ _ _ ?_)
    simp (maxSteps := 2000000) only [Zg, Zn, Zr, if_true]
    refine hZ [(0, u), (1, v), (2, .pointer (some ⟨p2, 0, none⟩)), (3, .pointer (some ⟨p2 + 1, 0, none⟩)), (4, .slice none 0 0), (5, .int .i64 0), (6, x), (24, .bool false)] _ _ ?_ (by simp (maxSteps := 2000000) only [vup, cond_true, cond_false, Nat.reduceBEq])
    clear hZ
    try clear Z
    -- sorted
    have hup := Xq huH hEp
    have hvp := Xq hvH hEp
    have c2 : hp[p2]? = some (.cells [u] 38 false) := (hEp.2 _ (Yj b2) id).trans b2
    have c3 : hp[p2 + 1]? = some (.cells [v] 38 false) := (hEp.2 _ (Yj b3) id).trans b3
    obtain ⟨bl, zs, rfl, hbl⟩ : ∃ b zs, x = .slice (some ⟨b, 0, some 0⟩) (List.range xs.length).length ((List.range xs.length).length + zs.length) ∧ hp[b]? = some (.ints (iL (List.range xs.length) ++ zs) 3 false) := by
      rcases ho with ⟨_, h0⟩ | ⟨b, zs, h1, h2⟩
      · have := congrArg List.length h0
        rw [iL_len, List.length_range] at this
        rw [List.length_nil] at this; omega
      · exact ⟨b, zs, by rw [h1, iL_len], h2⟩
    have hblH : H.length ≤ bl := hbx bl rfl
    have hset : ∀ (L' : List Nat), Ext (fun _ => False) H (hp.set bl (.ints (iL L' ++ zs) 3 false)) := fun L' => hEp.set_ge hblH _
    have hcmp : ∀ (L' : List Nat) (x y : Nat), x ∈ List.range xs.length → y ∈ List.range xs.length → Yv prog 93 ([Zd x, Zd y] ++ (#[.pointer (some ⟨p2, 0, none⟩), .pointer (some ⟨p2 + 1, 0, none⟩)] : Array Value).toList) (hp.set bl (.ints (iL L' ++ zs) 3 false)) (Zd (xs.getD y 0 * ys.getD y 0 - xs.getD x 0 * ys.getD x 0)) := fun L' x y hx hy =>
      cmp_call (((hset L').2 _ (Yj b2) id).trans b2) (((hset L').2 _ (Yj b3) id).trans b3) (Xq huH (hset L')) (Xq hvH (hset L')) rc.a rc.b re (List.mem_range.1 hx) (List.mem_range.1 hy)
    have sf := sortF_call (h := hp) (b := bl) (L0 := List.range xs.length) (ys := zs) (g := 93) (cap := #[.pointer (some ⟨p2, 0, none⟩), .pointer (some ⟨p2 + 1, 0, none⟩)]) (key := gKey xs ys) (cmp := fun x y => xs.getD y 0 * ys.getD y 0 - xs.getD x 0 * ys.getD x 0) rfl
      (fun x y hx hxy => by simp only [gKey]; omega) hcmp hbl (by rw [List.length_range]; omega) (fun x hx => by have := List.mem_range.1 hx; omega)
    refine Ze fun N10 hN10 => ?_
    simp (maxSteps := 2000000) only [↓Za, ↓Zb, ↓Zc, vup, List.map_cons, List.map_nil, cond_true, cond_false, aop, Zg, ev, sput, Zf, Nat.reduceBEq, Yk, List.nil_append, List.append_nil, List.map_toArray]
    refine (sf).mono ?_
    rintro rr h5 ⟨L, hpL, hsL, rfl⟩
    obtain ⟨G, hG⟩ : ∃ G, hp.set bl (.ints (iL L ++ zs) 3 false) = G := ⟨_, rfl⟩
    have hLn : L.length = xs.length := by rw [hpL.length_eq, List.length_range]
    have hEG : Ext (fun _ => False) H G := by rw [← hG]; exact hset L
    have o6 : IntSl G (.slice (some ⟨bl, 0, some 0⟩) (List.range xs.length).length ((List.range xs.length).length + zs.length)) (iL L) := by
      rw [← hG]; exact (ov_own (Yj hbl) (by rw [hLn, List.length_range])).int
    rw [hG]
    refine hN10 [(0, u), (1, v), (2, .pointer (some ⟨p2, 0, none⟩)), (3, .pointer (some ⟨p2 + 1, 0, none⟩)), (4, .slice none 0 0), (5, .int .i64 0), (6, .slice (some ⟨bl, 0, some 0⟩) (List.range xs.length).length ((List.range xs.length).length + zs.length)), (24, .bool false)] _ _ ?_ (by simp (maxSteps := 2000000) only [vup, cond_true, cond_false, Nat.reduceBEq])
    clear hN10
    try clear N10
    obtain ⟨w6, hw6⟩ : ∃ w, Value.slice (some ⟨bl, 0, some 0⟩) (List.range xs.length).length ((List.range xs.length).length + zs.length) = w := ⟨_, rfl⟩
    rw [hw6] at o6 ⊢
    have d2 := (hEG.2 _ (Yj b2) id).trans b2
    have d3 := (hEG.2 _ (Yj b3) id).trans b3
    have huG := Xq huH hEG
    have hvG := Xq hvH hEG
    have hE0 := hE.trans hEG
    clear sf hcmp hset hG hw6 c2 c3 hup hvp hbl hblH hbx hEp ho b2 b3 huH hvH hE hEG
    have wc : ∀ h', Yv prog 70 [Zd 1] h' (qV ((1 : Int) : Rat)) := fun _ => Wu
    have q1' : qV ((1 : Int) : Rat) = .agg #[Zd 1, Zd 1] := rfl
    have st8 : ∀ {K : Zh → Prop}, Xf prog (G ++ [z0] ++ [z0]) 26 (.pointer (some ⟨G.length, 0, none⟩)) (.agg #[Zd 1, Zd 1]) K = K (G ++ [fC 1 1] ++ [z0]) := fun {K} => by
      rw [Xk (b2_0 ..) rfl, List.set_append_left _ _ (by simp), Xn]
    have st9 : ∀ {K : Zh → Prop}, Xf prog (G ++ [fC 1 1] ++ [z0]) 26 (.pointer (some ⟨G.length + 1, 0, none⟩)) (.agg #[Zd 1, Zd 1]) K = K (G ++ [fC 1 1] ++ [fC 1 1]) := fun {K} => by
      have := Xn (G ++ [fC 1 1]) z0 (fC 1 1)
      simp only [List.length_append, List.length_singleton] at this
      rw [Xk (b2_1 ..) rfl, this]
    have st10 : ∀ {K : Zh → Prop}, Xf prog (G ++ [fC 1 1] ++ [fC 1 1] ++ [z0]) 26 (.pointer (some ⟨G.length + 1 + 1, 0, none⟩)) (.agg #[Zd 1, Zd 1]) K = K (G ++ [fC 1 1] ++ [fC 1 1] ++ [fC 1 1]) := fun {K} => by
      have := Xn (G ++ [fC 1 1] ++ [fC 1 1]) z0 (fC 1 1)
      simp only [List.length_append, List.length_singleton] at this
      rw [Xk (b3_2 ..) rfl, this]
    refine Ze fun N11 hN11 => ?_
    simp (maxSteps := 2000000) only [↓Za, ↓Zb, ↓Zc, vup, List.map_cons, List.map_nil, cond_true, cond_false, aop, Zg, ev, sput, Zf, Nat.reduceBEq, Yk, List.nil_append, List.append_nil]
    refine (wc G).mono ?_
    rintro _ G ⟨rfl, rfl⟩
    refine (wc G).mono ?_
    rintro _ G ⟨rfl, rfl⟩
    simp (maxSteps := 2000000) only [tyf, q1', Xe, Yr, List.length_append, List.length_singleton, st8, st9]
    refine hN11 [(0, u), (1, v), (2, .pointer (some ⟨p2, 0, none⟩)), (3, .pointer (some ⟨p2 + 1, 0, none⟩)), (4, .slice none 0 0), (5, .int .i64 0), (6, w6), (8, .pointer (some ⟨G.length, 0, none⟩)), (9, .pointer (some ⟨G.length + 1, 0, none⟩)), (24, .bool false)] _ _ ?_ (by simp (maxSteps := 2000000) only [vup, cond_true, cond_false, Nat.reduceBEq])
    clear hN11
    try clear N11
    refine Ze fun N12 hN12 => ?_
    simp (maxSteps := 2000000) only [↓Za, ↓Zb, ↓Zc, vup, List.map_cons, List.map_nil, cond_true, cond_false, aop, Zg, ev, sput, Zf, Nat.reduceBEq, Yk, List.nil_append, List.append_nil]
    refine (wc (G ++ [fC 1 1] ++ [fC 1 1])).mono ?_
    rintro _ _ ⟨rfl, rfl⟩
    simp (maxSteps := 2000000) only [tyf, q1', Xe, Yr, List.length_append, List.length_singleton, st10]
    obtain ⟨G2, hG2⟩ : ∃ G2, G2 = G ++ [fC 1 1] ++ [fC 1 1] ++ [fC 1 1] := ⟨_, rfl⟩
    obtain ⟨p8, hp8⟩ : ∃ p, G.length = p := ⟨_, rfl⟩
    have l2 : G2.length = p8 + 3 := by rw [hG2, ← hp8]; simp
    have e8 : G2[p8]? = some (fC 1 1) := by rw [hG2, ← hp8]; exact b3_0 ..
    have e9 : G2[p8 + 1]? = some (fC 1 1) := by rw [hG2, ← hp8]; exact b3_1 ..
    have e10 : G2[p8 + 2]? = some (fC 1 1) := by rw [hG2, ← hp8]; exact b3_2 ..
    have hEG2 : Ext (fun _ => False) G G2 := by rw [hG2]; exact e3 ..
    rw [← hG2, hp8]
    refine hN12 [(0, u), (1, v), (2, .pointer (some ⟨p2, 0, none⟩)), (3, .pointer (some ⟨p2 + 1, 0, none⟩)), (4, .slice none 0 0), (5, .int .i64 0), (6, w6), (8, .pointer (some ⟨p8, 0, none⟩)), (9, .pointer (some ⟨p8 + 1, 0, none⟩)), (10, .pointer (some ⟨p8 + 2, 0, none⟩)), (24, .bool false)] _ _ ?_ (by simp (maxSteps := 2000000) only [vup, cond_true, cond_false, Nat.reduceBEq])
    clear hN12
    try clear N12
    clear hG2 st8 st9 st10
    refine Ze fun N13 hN13 => ?_
    simp (maxSteps := 2000000) only [↓Za, ↓Zb, ↓Zc, vup, cond_false, aop, Zg, ev, sput, Zf, Nat.reduceBEq]
    refine hN13 [(0, u), (1, v), (2, .pointer (some ⟨p2, 0, none⟩)), (3, .pointer (some ⟨p2 + 1, 0, none⟩)), (4, .slice none 0 0), (5, .int .i64 0), (6, w6), (8, .pointer (some ⟨p8, 0, none⟩)), (9, .pointer (some ⟨p8 + 1, 0, none⟩)), (10, .pointer (some ⟨p8 + 2, 0, none⟩)), (11, .slice none 0 0), (24, .bool false)] _ _ ?_ (by simp (maxSteps := 2000000) only [vup, cond_true, cond_false, Nat.reduceBEq])
    clear hN13
    try clear N13
    have n1 : (1 : Rat).num = 1 := rfl
    have n2 : ((1 : Rat).den : Int) = 1 := rfl
    have gP0 : gP xs L 0 = 1 := by rw [gP, Yd]; decide +kernel
    have gQ0 : gQ ys L 0 = 1 := by rw [gQ, Yd]; decide +kernel
    have gK0 : gK xs ys L 0 = 1 := by rw [gK, gP0, gQ0]; decide +kernel
    have ltL : ∀ j, j < xs.length → L.getD j 0 < xs.length := fun j hj => g_lt rc hpL hj
    have hlen6 : ∀ {K : Value → Prop}, lenK w6 K = K (Zd xs.length) := fun {K} => by rw [o6.len, iL_len, hLn]
    refine Zk fun Z hZ => ?_
    have fin : ∀ k (w : Value) (hp : Zh), GrowP xs ys L k → OwnSl 3 hp w (iL (L.take k)) → Ext (fun _ => False) G hp → p8 + 3 ≤ hp.length → hp[p8 + 2]? = some (fC (gK xs ys L k).num (gK xs ys L k).den) → (∀ b, Yg w = some b → p8 + 3 ≤ b) → ∀ e, ELe e [(0, u), (1, v), (2, .pointer (some ⟨p2, 0, none⟩)), (3, .pointer (some ⟨p2 + 1, 0, none⟩)), (4, .slice none 0 0), (5, .int .i64 0), (6, w6), (8, .pointer (some ⟨p8, 0, none⟩)), (9, .pointer (some ⟨p8 + 1, 0, none⟩)), (10, .pointer (some ⟨p8 + 2, 0, none⟩)), (11, w), (24, .bool false)] → Z e hp := by
      intro k w hp gp ow hEp hl3 f10 hbw e he
      refine hZ _ _ _ ?_ he
      have hk := gp.le
      obtain ⟨y, y0, y1, rQ, rK⟩ := gK_rp rc hpL hk gp.cond
      have sb := gSum_le rc hpL k hk
      have nK : (27720 * (12 - gSum xs L k)).natAbs ≤ 332640 := by omega
      obtain ⟨K, hK⟩ : ∃ K, gK xs ys L k = K := ⟨_, rfl⟩
      rw [hK] at rK f10
      obtain ⟨X, hX⟩ : ∃ X, 27720 * (12 - gSum xs L k) = X := ⟨_, rfl⟩
      rw [hX] at rK nK
      have c2 := (hEp.2 _ (Yj d2) id).trans d2
      obtain ⟨F, hF⟩ : ∃ F : Nat → Zh, F = fun j => hp ++ [.ints [0, 1] 26 false] ++ [.cells ((Yb (Wo xs ys L K j)).map Zd) 26 false] := ⟨_, rfl⟩
      have hF0 : ∀ j, (F j)[hp.length + 1]? = some (.cells ((Yb (Wo xs ys L K j)).map Zd) 26 false) := fun j => by rw [hF]; exact b2_1 ..
      have hFE : ∀ j, Ext (fun _ => False) hp (F j) := fun j => by rw [hF]; exact e2 ..
      have hFs : ∀ j, (F j).set (hp.length + 1) (.cells ((Yb (Wo xs ys L K (j + 1))).map Zd) 26 false) = F (j + 1) := fun j => by
        simp only [hF]
        rw [show hp.length + 1 = (hp ++ [Blk.ints [0, 1] 26 false]).length by simp, Xn]
      have hF1 : hp ++ [.ints [0, 1] 26 false] ++ [.cells ((Yb (List.replicate xs.length ((0 : Int), (1 : Int)))).map Zd) 26 false] = F 0 := by
        simp only [hF, growL_zero]
      have rep := repeat_call (h := hp ++ [.ints [0, 1] 26 false]) (b0 := hp.length) (x := 0) (y := 1) (Zy _ _) (show 1 ≤ xs.length by omega) (show xs.length < 6 by omega)
      rw [hF1, List.length_append, List.length_singleton] at rep
      have q0 : qV ((0 : Int) : Rat) = .agg #[Zd 0, Zd 1] := rfl
      refine Ze fun N14 hN14 => ?_
      simp only [q55_22]
      refine aw_drawR (fun z => z[p2]? = some (.cells [u] 38 false)) [(0, 1), (2, 5)] (by kernel_rfl) (by kernel_rfl) (by kernel_rfl) (by kernel_rfl) c2 ?_
      simp (maxSteps := 2000000) only [↓dopsR_nil, ↓vdn, vup, List.map_cons, List.map_nil, cond_true, cond_false, aop, Zg, ev, sput, Zf, Zi, Nat.reduceBEq, Nat.reduceAdd, tyf, Yk, List.nil_append, List.append_nil]
      refine ⟨_, _, (show Yv prog 70 [Zd 0] hp (qV ((0 : Int) : Rat)) from Wu), rfl, ?_⟩
      simp (maxSteps := 2000000) only [q0, litF]
      refine ⟨Xg c2 _, u, fun z hz => by simp only [load1 hz Vb], ?_⟩
      simp (maxSteps := 2000000) only [huG.len]
      refine ⟨_, _, rep, (hFE 0).2 _ (Yj c2) id |>.trans c2, ?_⟩
      refine hN14 [(0, u), (1, v), (2, .pointer (some ⟨p2, 0, none⟩)), (3, .pointer (some ⟨p2 + 1, 0, none⟩)), (4, .slice none 0 0), (5, .int .i64 0), (6, w6), (8, .pointer (some ⟨p8, 0, none⟩)), (9, .pointer (some ⟨p8 + 1, 0, none⟩)), (10, .pointer (some ⟨p8 + 2, 0, none⟩)), (11, w), (14, .slice (some ⟨hp.length + 1, 0, none⟩) xs.length xs.length), (24, .bool false)] _ _ ?_ (by simp (maxSteps := 2000000) only [vup, cond_true, cond_false, Nat.reduceBEq])
      clear hN14
      try clear N14
      have hwlen : ∀ {K : Value → Prop}, lenK w K = K (Zd k) := fun {K} => by
        rw [ow.int.len, iL_len, List.length_take, Nat.min_eq_left (by omega)]
      refine Zk fun Y hY => ?_
      refine Ze fun N15 hN15 => ?_
      simp (maxSteps := 2000000) only [↓Za, ↓Zb, ↓Zc, vup, List.map_cons, List.map_nil, cond_true, cond_false, aop, Zg, ev, sput, Zf, Zi, Nat.reduceBEq, tyf, hwlen]
      refine hN15 [(0, u), (1, v), (2, .pointer (some ⟨p2, 0, none⟩)), (3, .pointer (some ⟨p2 + 1, 0, none⟩)), (4, .slice none 0 0), (5, .int .i64 0), (6, w6), (8, .pointer (some ⟨p8, 0, none⟩)), (9, .pointer (some ⟨p8 + 1, 0, none⟩)), (10, .pointer (some ⟨p8 + 2, 0, none⟩)), (11, w), (14, .slice (some ⟨hp.length + 1, 0, none⟩) xs.length xs.length), (24, .bool false), (83, w), (84, Zd (k : Nat)), (85, .int .i64 0)] _ _ ?_ (by simp (maxSteps := 2000000) only [vup, cond_true, cond_false, Nat.reduceBEq])
      clear hN15
      try clear N15
      refine Zl ?_
      refine Zm fun Q hQ => ?_
      refine Yh (γ := Nat) (fun j => j ≤ k) (fun j => ([(0, u), (1, v), (2, .pointer (some ⟨p2, 0, none⟩)), (3, .pointer (some ⟨p2 + 1, 0, none⟩)), (4, .slice none 0 0), (5, .int .i64 0), (6, w6), (8, .pointer (some ⟨p8, 0, none⟩)), (9, .pointer (some ⟨p8 + 1, 0, none⟩)), (10, .pointer (some ⟨p8 + 2, 0, none⟩)), (11, w), (14, .slice (some ⟨hp.length + 1, 0, none⟩) xs.length xs.length), (24, .bool false), (83, w), (84, Zd (k : Nat)), (85, Zd (j : Nat))], F j)) (fun j => k - j) 0 (Nat.zero_le _) (by simp (maxSteps := 2000000) only [vup, cond_true, cond_false, Nat.reduceBEq, Int.natCast_zero]) rfl ?_
      rintro j hj
      refine Zm fun Q2 hQ2 => ?_
      simp only [l55_2]
      by_cases hin : (j : Int) < k
      · have hj' : j < k := by omega
        have hx := ltL j (by omega)
        obtain ⟨x, hxe⟩ : ∃ x, L.getD j 0 = x := ⟨_, rfl⟩
        rw [hxe] at hx
        have hxy : x < ys.length := by omega
        have owF : IntSl (F j) w (iL (L.take k)) := Xq ow.int (hFE j)
        have hjl : j < (iL (L.take k)).length := by rw [iL_len, List.length_take]; omega
        have hgt : (L.take k).getD j 0 = x := by rw [← hxe, List.getD, List.getD, List.getElem?_take, if_pos hj']
        obtain ⟨p, hpe⟩ : ∃ p, xs.getD x 0 = p := ⟨_, rfl⟩
        obtain ⟨q, hqe⟩ : ∃ p, ys.getD x 0 = p := ⟨_, rfl⟩
        have pa := rc.a x hx
        have qb := rc.b x hxy
        rw [hpe] at pa
        rw [hqe] at qb
        have va : Yv prog 64 [Zd p, Zd 12] (F j) (qV (gVa xs x)) := by
          have := Wp (h := F j) (a := p) (b := 12) (by decide) (by omega) (by decide)
          rw [gVa, hpe]; exact this
        have vb : Yv prog 64 [Zd 1, Zd q] (F j) (qV (gVb ys x)) := by
          have := Wp (h := F j) (a := 1) (b := q) (by omega) (by decide) (by omega)
          rw [gVb, hqe]; exact this
        have rVa : Rp 12 p (gVa xs x) := by rw [gVa, hpe]; exact Rp.of_frac (N := 12) (by decide) p
        obtain ⟨b1, b2, b3⟩ := gVb_pos rc hpL hx
        obtain ⟨z, rVb⟩ := rp_of (by decide) b3
        have zb := rVb.bound (C := 1) (Rat.le_trans (by decide) (Rat.le_of_lt b1)) b2
        have rM := rK.mul rVb
        have Xz : (X * z).natAbs ≤ 332640 * 27720 := by rw [Int.natAbs_mul]; exact Nat.mul_le_mul nK (by omega)
        have rVa' := rVa.up (y * 27720) (by omega)
        rw [show 12 * (y * 27720) = 12 * y * 27720 by omega] at rVa'
        have py : (p * ((y * 27720 : Nat) : Int)).natAbs ≤ 12 * (27720 * 27720) := by rw [Int.natAbs_mul]; exact Nat.mul_le_mul (by omega) (by omega)
        have tm : Yv prog 72 [qV K, qV (gVb ys x)] (F j) (qV (K * gVb ys x)) := times_call (fits_of rK (by omega) (by omega)) (fits_of rVb (by omega) (by omega)) (fits_of rM (by omega) (by omega))
        have pl : Yv prog 71 [qV (gVa xs x), Zd (-1), qV (K * gVb ys x)] (F j) (qV (gVa xs x + ((-1 : Int) : Rat) * (K * gVb ys x))) := plus_call rVa' rM (by omega) (by omega)
        have hst := growL_step (xs := xs) (ys := ys) (K := K) hxe
        obtain ⟨T, hT⟩ : ∃ T, gVa xs x + ((-1 : Int) : Rat) * (K * gVb ys x) = T := ⟨_, rfl⟩
        rw [hT] at pl hst
        have hEF := hEp.trans (hFE j)
        have c2F := (hEF.2 _ (Yj d2) id).trans d2
        have c3F := (hEF.2 _ (Yj d3) id).trans d3
        have huF := Xq huG hEF
        have hvF := Xq hvG hEF
        have f10F := ((hFE j).2 _ (Yj f10) id).trans f10
        have hgl : (Wo xs ys L K j).length = xs.length := by simp [Wo]
        have psF := pairSl_cells (e := 26) (ro := false) (hF0 j)
        rw [hgl] at psF
        have hsto : ∀ {K' : Zh → Prop}, Xf prog (F j) 26 (.pointer (some ⟨hp.length + 1, x * 2, none⟩)) (.agg #[Zd T.num, Zd T.den]) K' = K' (F (j + 1)) := fun {K'} => by
          rw [storePC (hF0 j) Wv (by omega), ← hFs, ← hst]; rfl
        refine Ze fun N16 hN16 => ?_
        simp (maxSteps := 2000000) only [↓Za, ↓Zb, ↓Zc, vup, cond_true, cond_false, aop, Zg, ev, sput, Zf, Zz, Ya, Nat.reduceBEq, hin]
        refine hN16 [(0, u), (1, v), (2, .pointer (some ⟨p2, 0, none⟩)), (3, .pointer (some ⟨p2 + 1, 0, none⟩)), (4, .slice none 0 0), (5, .int .i64 0), (6, w6), (8, .pointer (some ⟨p8, 0, none⟩)), (9, .pointer (some ⟨p8 + 1, 0, none⟩)), (10, .pointer (some ⟨p8 + 2, 0, none⟩)), (11, w), (14, .slice (some ⟨hp.length + 1, 0, none⟩) xs.length xs.length), (24, .bool false), (83, w), (84, Zd (k : Nat)), (85, Zd (j : Nat)), (86, .bool true)] _ _ ?_ (by simp (maxSteps := 2000000) only [vup, cond_true, cond_false, Nat.reduceBEq])
        clear hN16
        try clear N16
        refine Ze fun N17 hN17 => ?_
        simp (maxSteps := 2000000) only [↓Zo, ↓vdn, vup, cond_true, cond_false, Zg, ev, Nat.reduceBEq]
        refine hN17 [(0, u), (1, v), (2, .pointer (some ⟨p2, 0, none⟩)), (3, .pointer (some ⟨p2 + 1, 0, none⟩)), (4, .slice none 0 0), (5, .int .i64 0), (6, w6), (8, .pointer (some ⟨p8, 0, none⟩)), (9, .pointer (some ⟨p8 + 1, 0, none⟩)), (10, .pointer (some ⟨p8 + 2, 0, none⟩)), (11, w), (14, .slice (some ⟨hp.length + 1, 0, none⟩) xs.length xs.length), (24, .bool false), (83, w), (84, Zd (k : Nat)), (85, Zd (j : Nat))] _ _ ?_ (by simp (maxSteps := 2000000) only [vup, cond_true, cond_false, Nat.reduceBEq])
        clear hN17
        try clear N17
        refine Zk fun B hB => ?_
        refine Zl ?_
        refine Ze fun N18 hN18 => ?_
        simp (maxSteps := 2000000) only [↓Za, ↓Zb, ↓Zc, vup, cond_true, cond_false, aop, Zg, ev, sput, Zf, Nat.reduceBEq, owF.idx Wb Xt hjl, owF.load Xl hjl, iL_get, hgt]
        refine hN18 [(0, u), (1, v), (2, .pointer (some ⟨p2, 0, none⟩)), (3, .pointer (some ⟨p2 + 1, 0, none⟩)), (4, .slice none 0 0), (5, .int .i64 0), (6, w6), (8, .pointer (some ⟨p8, 0, none⟩)), (9, .pointer (some ⟨p8 + 1, 0, none⟩)), (10, .pointer (some ⟨p8 + 2, 0, none⟩)), (11, w), (14, .slice (some ⟨hp.length + 1, 0, none⟩) xs.length xs.length), (16, Zd (x : Nat)), (24, .bool false), (83, w), (84, Zd (k : Nat)), (85, Zd (j : Nat))] _ _ ?_ (by simp (maxSteps := 2000000) only [vup, cond_true, cond_false, Nat.reduceBEq])
        clear hN18
        try clear N18
        refine Zj ?_
        simp only [q55_26]
        refine Yo [(6, 1), (12, 1), (13, 1), (14, 1)] (by kernel_rfl) (by kernel_rfl) (by kernel_rfl) (by kernel_rfl) ?_
        refine Wa 7 rfl fun N1 hN1 => ?_
        simp (maxSteps := 2000000) only [↓Zp, ↓vdn, vup, List.map_cons, List.map_nil, cond_true, cond_false, aop, ev, sput, Zf, Nat.reduceBEq, Nat.reduceAdd, List.take_succ_cons, List.take_zero, load1 c2F Vb, huF.idx Wb Xt hx, huF.load Xl hx, hpe, Yk, List.nil_append, List.append_nil]
        refine ⟨_, _, va, rfl, ?_⟩
        refine hN1 _ _ ?_
        clear hN1 N1
        refine Wa 6 rfl fun N1 hN1 => ?_
        simp (maxSteps := 2000000) only [↓Zp, ↓vdn, vup, List.map_cons, List.map_nil, cond_true, cond_false, aop, ev, sput, Zf, Nat.reduceBEq, Nat.reduceAdd, List.drop_succ_cons, List.drop_zero, List.take_succ_cons, List.take_zero, Ws f10F, load1 c3F Vb, hvF.idx Wb Xt hxy, hvF.load Xl hxy, hqe, Yk, List.nil_append, List.append_nil]
        refine ⟨_, _, vb, rfl, ?_⟩
        refine hN1 _ _ ?_
        clear hN1 N1
        refine Wa 1 rfl fun N1 hN1 => ?_
        simp (maxSteps := 2000000) only [↓Zp, ↓vdn, vup, List.map_cons, List.map_nil, cond_true, cond_false, ev, sput, Zf, Nat.reduceBEq, Nat.reduceAdd, List.drop_succ_cons, List.drop_zero, List.take_succ_cons, List.take_zero, Yk, List.nil_append, List.append_nil]
        refine ⟨_, _, tm, rfl, ?_⟩
        refine hN1 _ _ ?_
        clear hN1 N1
        refine Wa 1 rfl fun N1 hN1 => ?_
        simp (maxSteps := 2000000) only [↓Zp, ↓vdn, vup, List.map_cons, List.map_nil, cond_true, cond_false, ev, sput, Zf, Nat.reduceBEq, Nat.reduceAdd, List.drop_succ_cons, List.drop_zero, List.take_succ_cons, List.take_zero, Yk, List.nil_append, List.append_nil]
        refine ⟨_, _, pl, rfl, ?_⟩
        refine hN1 _ _ ?_
        clear hN1 N1
        simp (maxSteps := 2000000) only [↓Zp, ↓vdn, vup, cond_true, cond_false, aop, Zg, Zn, ev, sput, Zf, Nat.reduceBEq, Nat.reduceAdd, List.drop_succ_cons, List.drop_zero, qV, frV, psF.idx Vo Xw (show x < (Wo xs ys L K j).length by omega), elemP_pair, hsto]
        refine hB [(0, u), (1, v), (2, .pointer (some ⟨p2, 0, none⟩)), (3, .pointer (some ⟨p2 + 1, 0, none⟩)), (4, .slice none 0 0), (5, .int .i64 0), (6, w6), (8, .pointer (some ⟨p8, 0, none⟩)), (9, .pointer (some ⟨p8 + 1, 0, none⟩)), (10, .pointer (some ⟨p8 + 2, 0, none⟩)), (11, w), (14, .slice (some ⟨hp.length + 1, 0, none⟩) xs.length xs.length), (24, .bool false), (83, w), (84, Zd (k : Nat)), (85, Zd (j : Nat))] _ _ ?_ (by simp (maxSteps := 2000000) only [vup, cond_true, cond_false, Nat.reduceBEq])
        clear hB
        try clear B
        refine Zj ?_
        simp (maxSteps := 2000000) only [↓Za, ↓Zb, ↓Zc, vup, cond_true, cond_false, aop, ev, sput, Zf, Zz, Ya, Nat.reduceBEq, add1 (show j < 9223372036854775807 by omega)]
        exact hQ2 _ _ _ ⟨j + 1, hj', by omega, by simp (maxSteps := 2000000) only [vup, cond_true, cond_false, Nat.reduceBEq], rfl⟩
      · obtain rfl : j = k := by omega
        refine Ze fun N19 hN19 => ?_
        simp (maxSteps := 2000000) only [↓Za, ↓Zb, ↓Zc, vup, cond_true, cond_false, aop, Zg, ev, sput, Zf, Zz, Ya, Nat.reduceBEq, hin]
        refine hN19 [(0, u), (1, v), (2, .pointer (some ⟨p2, 0, none⟩)), (3, .pointer (some ⟨p2 + 1, 0, none⟩)), (4, .slice none 0 0), (5, .int .i64 0), (6, w6), (8, .pointer (some ⟨p8, 0, none⟩)), (9, .pointer (some ⟨p8 + 1, 0, none⟩)), (10, .pointer (some ⟨p8 + 2, 0, none⟩)), (11, w), (14, .slice (some ⟨hp.length + 1, 0, none⟩) xs.length xs.length), (24, .bool false), (83, w), (84, Zd (j : Nat)), (85, Zd (j : Nat)), (86, .bool false)] _ _ ?_ (by simp (maxSteps := 2000000) only [vup, cond_true, cond_false, Nat.reduceBEq])
        clear hN19
        try clear N19
        refine Ze fun N20 hN20 => ?_
        simp (maxSteps := 2000000) only [↓Yn, ↓vdn, vup, cond_true, cond_false, Zg, ev, Nat.reduceBEq]
        refine hQ2 _ _ _ (hQ _ _ _ ?_)
        simp (maxSteps := 2000000) only [Zg, Zn, Zr, if_true]
        refine hY [(0, u), (1, v), (2, .pointer (some ⟨p2, 0, none⟩)), (3, .pointer (some ⟨p2 + 1, 0, none⟩)), (4, .slice none 0 0), (5, .int .i64 0), (6, w6), (8, .pointer (some ⟨p8, 0, none⟩)), (9, .pointer (some ⟨p8 + 1, 0, none⟩)), (10, .pointer (some ⟨p8 + 2, 0, none⟩)), (11, w), (14, .slice (some ⟨hp.length + 1, 0, none⟩) xs.length xs.length), (24, .bool false), (86, .bool false)] _ _ ?_ (by simp (maxSteps := 2000000) only [vup, cond_true, cond_false, Nat.reduceBEq])
        clear hY
        try clear Y
        have psF := pairSl_cells (e := 26) (ro := false) (hF0 j)
        have hgl : (Wo xs ys L K j).length = xs.length := by simp [Wo]
        rw [hgl] at psF
        refine Zj ?_
        simp (maxSteps := 2000000) only [↓Za, ↓Zs, ↓Zx, ↓Zb, ↓Zc, vup, cond_true, cond_false, aop, Zg, ev, sput, Zf, Nat.reduceBEq, Zr, Xo, tup]
        exact ⟨(hE0.trans hEp).trans (hFE j), fun _ => ⟨L, j, _, gp, rfl, by rw [hK]; exact psF⟩, fun hc => by rw [hr] at hc; cases hc⟩
    refine Ze fun N21 hN21 => ?_
    simp (maxSteps := 2000000) only [↓Za, ↓Zb, ↓Zc, vup, List.map_cons, List.map_nil, cond_true, cond_false, aop, Zg, ev, sput, Zf, Zi, Nat.reduceBEq, tyf, hlen6]
    refine hN21 [(0, u), (1, v), (2, .pointer (some ⟨p2, 0, none⟩)), (3, .pointer (some ⟨p2 + 1, 0, none⟩)), (4, .slice none 0 0), (5, .int .i64 0), (6, w6), (8, .pointer (some ⟨p8, 0, none⟩)), (9, .pointer (some ⟨p8 + 1, 0, none⟩)), (10, .pointer (some ⟨p8 + 2, 0, none⟩)), (11, .slice none 0 0), (24, .bool false), (37, w6), (38, Zd xs.length), (39, .int .i64 0)] _ _ ?_ (by simp (maxSteps := 2000000) only [vup, cond_true, cond_false, Nat.reduceBEq])
    clear hN21
    try clear N21
    refine Zl ?_
    refine Zm fun Q hQ => ?_
    refine Yh (γ := Nat × Value × Zh) (fun s => s.1 ≤ xs.length ∧ (∀ j, j < s.1 → gK xs ys L j < gVv xs ys (L.getD j 0)) ∧ OwnSl 3 s.2.2 s.2.1 (iL (L.take s.1)) ∧ Ext (fun _ => False) G s.2.2 ∧ p8 + 3 ≤ s.2.2.length ∧ s.2.2[p8]? = some (fC (gP xs L s.1).num (gP xs L s.1).den) ∧ s.2.2[p8 + 1]? = some (fC (gQ ys L s.1).num (gQ ys L s.1).den) ∧ s.2.2[p8 + 2]? = some (fC (gK xs ys L s.1).num (gK xs ys L s.1).den) ∧ ∀ b, Yg s.2.1 = some b → p8 + 3 ≤ b)
      (fun s => ([(0, u), (1, v), (2, .pointer (some ⟨p2, 0, none⟩)), (3, .pointer (some ⟨p2 + 1, 0, none⟩)), (4, .slice none 0 0), (5, .int .i64 0), (6, w6), (8, .pointer (some ⟨p8, 0, none⟩)), (9, .pointer (some ⟨p8 + 1, 0, none⟩)), (10, .pointer (some ⟨p8 + 2, 0, none⟩)), (11, s.2.1), (24, .bool false), (37, w6), (38, Zd xs.length), (39, Zd (s.1 : Nat))], s.2.2)) (fun s => xs.length - s.1) (0, .slice none 0 0, G2) ⟨Nat.zero_le _, fun j hj => by omega, .inl ⟨rfl, rfl⟩, hEG2, by simp only; omega, by simp only; rw [gP0, n1, n2]; exact e8, by simp only; rw [gQ0, n1, n2]; exact e9, by simp only; rw [gK0, n1, n2]; exact e10, fun b hb => by cases hb⟩ (by simp (maxSteps := 2000000) only [vup, cond_true, cond_false, Nat.reduceBEq, Int.natCast_zero]) rfl ?_
    rintro ⟨k, w, hp⟩ ⟨hk, hco, ow, hEp, hl3, f8, f9, f10, hbw⟩
    simp only at hk hco ow hEp hl3 f8 f9 f10 hbw
    refine Zm fun Q2 hQ2 => ?_
    simp only [l55_1]
    by_cases hin : (k : Int) < xs.length
    · have hk' : k < xs.length := by omega
      have hx := ltL k hk'
      have hxy : L.getD k 0 < ys.length := by omega
      obtain ⟨x, hxe⟩ : ∃ x, L.getD k 0 = x := ⟨_, rfl⟩
      rw [hxe] at hx hxy
      have o6p := Xq o6 hEp
      have hup := Xq huG hEp
      have hvp := Xq hvG hEp
      have c2 := (hEp.2 _ (Yj d2) id).trans d2
      have c3 := (hEp.2 _ (Yj d3) id).trans d3
      have hk6 : k < (iL L).length := by rw [iL_len]; omega
      obtain ⟨p, hpe⟩ : ∃ p, xs.getD x 0 = p := ⟨_, rfl⟩
      obtain ⟨q, hqe⟩ : ∃ p, ys.getD x 0 = p := ⟨_, rfl⟩
      have pa := rc.a x hx
      have qb := rc.b x hxy
      rw [hpe] at pa
      rw [hqe] at qb
      have pq : (p * q).natAbs ≤ 144 := by rw [Int.natAbs_mul]; exact Nat.mul_le_mul (show p.natAbs ≤ 12 by omega) (show q.natAbs ≤ 12 by omega)
      have m1 : mulV .i64 p q = p * q := mulN (by omega)
      have fv : ∀ h', Yv prog 64 [Zd (p * q), Zd 12] h' (qV (gVv xs ys x)) := fun h' => by
        have := Wp (h := h') (a := p * q) (b := 12) (by decide) (by omega) (by decide)
        rw [gVv, hpe, hqe]; exact this
      obtain ⟨y, y0, y1, rQ, rK⟩ := gK_rp rc hpL hk hco
      have sb := gSum_le rc hpL k hk
      have rV : Rp (12 * y) (p * q * y) (gVv xs ys x) := by
        have := (Rp.of_frac (N := 12) (by decide) (p * q)).up y y0
        rw [gVv, hpe, hqe]; exact this
      have pqy : (p * q * (y : Int)).natAbs ≤ 144 * 27720 := by rw [Int.natAbs_mul]; exact Nat.mul_le_mul pq (by omega)
      have lc : ∀ h', Yv prog 62 [qV (gK xs ys L k), qV (gVv xs ys x)] h' (.bool (decide (gK xs ys L k < gVv xs ys x))) := fun h' => less_call rK rV (by omega) (by omega)
      refine Ze fun N22 hN22 => ?_
      simp (maxSteps := 2000000) only [↓Za, ↓Zb, ↓Zc, vup, cond_true, cond_false, aop, Zg, ev, sput, Zf, Zz, Ya, Nat.reduceBEq, hin]
      refine hN22 [(0, u), (1, v), (2, .pointer (some ⟨p2, 0, none⟩)), (3, .pointer (some ⟨p2 + 1, 0, none⟩)), (4, .slice none 0 0), (5, .int .i64 0), (6, w6), (8, .pointer (some ⟨p8, 0, none⟩)), (9, .pointer (some ⟨p8 + 1, 0, none⟩)), (10, .pointer (some ⟨p8 + 2, 0, none⟩)), (11, w), (24, .bool false), (37, w6), (38, Zd xs.length), (39, Zd (k : Nat)), (40, .bool true)] _ _ ?_ (by simp (maxSteps := 2000000) only [vup, cond_true, cond_false, Nat.reduceBEq])
      clear hN22
      try clear N22
      refine Ze fun N23 hN23 => ?_
      simp (maxSteps := 2000000) only [↓Zo, ↓vdn, vup, cond_true, cond_false, Zg, ev, Nat.reduceBEq]
      refine hN23 [(0, u), (1, v), (2, .pointer (some ⟨p2, 0, none⟩)), (3, .pointer (some ⟨p2 + 1, 0, none⟩)), (4, .slice none 0 0), (5, .int .i64 0), (6, w6), (8, .pointer (some ⟨p8, 0, none⟩)), (9, .pointer (some ⟨p8 + 1, 0, none⟩)), (10, .pointer (some ⟨p8 + 2, 0, none⟩)), (11, w), (24, .bool false), (37, w6), (38, Zd xs.length), (39, Zd (k : Nat))] _ _ ?_ (by simp (maxSteps := 2000000) only [vup, cond_true, cond_false, Nat.reduceBEq])
      clear hN23
      try clear N23
      refine Zk fun B hB => ?_
      refine Zl ?_
      refine Ze fun N24 hN24 => ?_
      simp (maxSteps := 2000000) only [↓Za, ↓Zb, ↓Zc, vup, cond_true, cond_false, aop, Zg, ev, sput, Zf, Nat.reduceBEq, o6p.idx Wb Xt hk6, o6p.load Xl hk6, iL_get, hxe]
      refine hN24 [(0, u), (1, v), (2, .pointer (some ⟨p2, 0, none⟩)), (3, .pointer (some ⟨p2 + 1, 0, none⟩)), (4, .slice none 0 0), (5, .int .i64 0), (6, w6), (8, .pointer (some ⟨p8, 0, none⟩)), (9, .pointer (some ⟨p8 + 1, 0, none⟩)), (10, .pointer (some ⟨p8 + 2, 0, none⟩)), (11, w), (13, Zd (x : Nat)), (24, .bool false), (37, w6), (38, Zd xs.length), (39, Zd (k : Nat))] _ _ ?_ (by simp (maxSteps := 2000000) only [vup, cond_true, cond_false, Nat.reduceBEq])
      clear hN24
      try clear N24
      refine Zk fun C hC => ?_
      refine Ze fun N25 hN25 => ?_
      simp only [q55_16]
      refine Yo [(10, 1), (11, 1)] (by kernel_rfl) (by kernel_rfl) (by kernel_rfl) (by kernel_rfl) ?_
      refine Wa 11 rfl fun N1 hN1 => ?_
      simp (maxSteps := 2000000) only [↓Zp, ↓vdn, vup, List.map_cons, List.map_nil, cond_true, cond_false, aop, ev, sput, Zf, Zz, Ya, Nat.reduceBEq, Nat.reduceAdd, tyf, List.take_succ_cons, List.take_zero, Ws f10, load1 c2 Vb, load1 c3 Vb, hup.idx Wb Xt hx, hup.load Xl hx, hvp.idx Wb Xt hxy, hvp.load Xl hxy, hpe, hqe, m1, Yk, List.nil_append, List.append_nil]
      refine ⟨_, _, fv hp, rfl, ?_⟩
      refine hN1 _ _ ?_
      clear hN1 N1
      refine Wa 1 rfl fun N1 hN1 => ?_
      simp (maxSteps := 2000000) only [↓Zp, ↓vdn, vup, List.map_cons, List.map_nil, cond_true, cond_false, ev, sput, Zf, Nat.reduceBEq, Nat.reduceAdd, List.drop_succ_cons, List.drop_zero, List.take_succ_cons, List.take_zero, Yk, List.nil_append, List.append_nil]
      refine ⟨_, _, lc hp, rfl, ?_⟩
      refine hN1 _ _ ?_
      clear hN1 N1
      simp (maxSteps := 2000000) only [↓Zp, ↓vdn, vup, cond_true, cond_false, aop, Zg, ev, sput, Zf, unK, Nat.reduceBEq, Nat.reduceAdd, List.drop_succ_cons, List.drop_zero]
      refine hN25 [(0, u), (1, v), (2, .pointer (some ⟨p2, 0, none⟩)), (3, .pointer (some ⟨p2 + 1, 0, none⟩)), (4, .slice none 0 0), (5, .int .i64 0), (6, w6), (8, .pointer (some ⟨p8, 0, none⟩)), (9, .pointer (some ⟨p8 + 1, 0, none⟩)), (10, .pointer (some ⟨p8 + 2, 0, none⟩)), (11, w), (13, Zd (x : Nat)), (24, .bool false), (37, w6), (38, Zd xs.length), (39, Zd (k : Nat)), (55, .bool (!decide (gK xs ys L k < gVv xs ys x)))] _ _ ?_ (by simp (maxSteps := 2000000) only [vup, cond_true, cond_false, Nat.reduceBEq])
      clear hN25
      try clear N25
      by_cases hcd : gK xs ys L k < gVv xs ys x
      case neg =>
        rw [decide_eq_false hcd]
        refine Wf rfl ?_
        refine Zj ?_
        simp (maxSteps := 2000000) only [↓Yn, vup, Zg, Zn]
        refine hQ2 _ _ _ (hQ _ _ _ ?_)
        simp (maxSteps := 2000000) only [Zg, Zn, Zr, if_true]
        exact fin k w hp ⟨hpL, hsL, hk, hco, .inr (by rw [hxe]; exact hcd)⟩ ow hEp hl3 f10 hbw _ (by simp (maxSteps := 2000000) only [vup, cond_true, cond_false, Nat.reduceBEq])
      rw [decide_eq_true hcd]
      refine Xa rfl ?_
      refine Zj ?_
      simp (maxSteps := 2000000) only [↓Zo, vup, Zg]
      refine hC [(0, u), (1, v), (2, .pointer (some ⟨p2, 0, none⟩)), (3, .pointer (some ⟨p2 + 1, 0, none⟩)), (4, .slice none 0 0), (5, .int .i64 0), (6, w6), (8, .pointer (some ⟨p8, 0, none⟩)), (9, .pointer (some ⟨p8 + 1, 0, none⟩)), (10, .pointer (some ⟨p8 + 2, 0, none⟩)), (11, w), (13, Zd (x : Nat)), (24, .bool false), (37, w6), (38, Zd xs.length), (39, Zd (k : Nat))] _ _ ?_ (by simp (maxSteps := 2000000) only [vup, cond_true, cond_false, Nat.reduceBEq])
      clear hC
      try clear C
      have hco' : ∀ j, j < k + 1 → gK xs ys L j < gVv xs ys (L.getD j 0) := fun j hj => by
        by_cases hjk : j = k
        · subst hjk; rw [hxe]; exact hcd
        · exact hco j (by omega)
      obtain ⟨y', y0', y1', rQ', rK'⟩ := gK_rp rc hpL hk' hco'
      have sb' := gSum_le rc hpL (k + 1) hk'
      have nK : (27720 * (12 - gSum xs L (k + 1))).natAbs ≤ 332640 := by omega
      have q0' := gQ_pos rc hpL (k + 1) hk' hco'
      have rP := gP_rp xs L k
      have rP' := gP_rp xs L (k + 1)
      have stP := gP_step xs L k
      have stQ := gQ_step ys L k
      rw [hxe] at stP stQ
      have va : ∀ h', Yv prog 64 [Zd p, Zd 12] h' (qV (gVa xs x)) := fun h' => by
        have := Wp (h := h') (a := p) (b := 12) (by decide) (by omega) (by decide)
        rw [gVa, hpe]; exact this
      have vb : ∀ h', Yv prog 64 [Zd 1, Zd q] h' (qV (gVb ys x)) := fun h' => by
        have := Wp (h := h') (a := 1) (b := q) (by omega) (by decide) (by omega)
        rw [gVb, hqe]; exact this
      have rVa : Rp 12 p (gVa xs x) := by rw [gVa, hpe]; exact Rp.of_frac (N := 12) (by decide) p
      obtain ⟨b1, b2, b3⟩ := gVb_pos rc hpL hx
      obtain ⟨z, rVb⟩ := rp_of (by decide) b3
      have zb := rVb.bound (C := 1) (Rat.le_trans (by decide) (Rat.le_of_lt b1)) b2
      have plP : ∀ h', Yv prog 71 [qV (gP xs L k), Zd (-1), qV (gVa xs x)] h' (qV (gP xs L (k + 1))) := fun h' => by
        rw [← stP]; exact plus_call rP rVa (by omega) (by decide)
      have plQ : ∀ h', Yv prog 71 [qV (gQ ys L k), Zd (-1), qV (gVb ys x)] h' (qV (gQ ys L (k + 1))) := fun h' => by
        rw [← stQ]; exact plus_call rQ rVb (by omega) (by decide)
      have ovK : ∀ h', Yv prog 94 [qV (gP xs L (k + 1)), qV (gQ ys L (k + 1))] h' (qV (gK xs ys L (k + 1))) := fun h' =>
        over_call (fits_of rP' (by decide) (by omega)) (fits_of rQ' (by decide) (by omega)) (fun hc => by rw [hc] at q0'; exact absurd q0' (by decide)) (fits_of rK' (by omega) (Nat.lt_of_le_of_lt nK (by decide)))
      obtain ⟨P, hP⟩ : ∃ P, gP xs L k = P := ⟨_, rfl⟩
      obtain ⟨P', hP'⟩ : ∃ P, gP xs L (k + 1) = P := ⟨_, rfl⟩
      obtain ⟨R, hR⟩ : ∃ P, gQ ys L k = P := ⟨_, rfl⟩
      obtain ⟨R', hR'⟩ : ∃ P, gQ ys L (k + 1) = P := ⟨_, rfl⟩
      obtain ⟨K', hK'⟩ : ∃ P, gK xs ys L (k + 1) = P := ⟨_, rfl⟩
      rw [hP, hP'] at plP
      rw [hR, hR'] at plQ
      rw [hP', hR', hK'] at ovK
      rw [hP] at f8
      rw [hR] at f9
      obtain ⟨va1, hva1⟩ : ∃ P, gVa xs x = P := ⟨_, rfl⟩
      obtain ⟨vb1, hvb1⟩ : ∃ P, gVb ys x = P := ⟨_, rfl⟩
      rw [hva1] at va plP
      rw [hvb1] at vb plQ
      -- one more chosen
      refine Ze fun N26 hN26 => ?_
      simp (maxSteps := 2000000) only [↓Za, ↓Zb, ↓Zc, vup, List.map_cons, List.map_nil, cond_true, cond_false, aop, Zg, ev, sput, Zf, Zi, Nat.reduceBEq, litI1]
      refine OwnSl.append (x := (x : Int)) (ow.ext (S := fun _ => False) (Ext.app _ _ _) (fun _ _ => id)) app_38_38 (by rw [iL_len, List.length_take]; omega) (Zy _ _) ?_
      intro w' h' ow' hE' hb'
      have hsn : iL (L.take k) ++ [((x : Nat) : Int)] = iL (L.take (k + 1)) := by
        rw [take_snoc (d := (0 : Nat)) (show k < L.length by omega), hxe, iL, iL, List.map_append]; rfl
      rw [hsn] at ow'
      obtain ⟨hEh, _⟩ := ownExt (e := 3) (H' := hp) hEp (fun b hb => by have := hbw b hb; omega) _ hE' hb'
      have hkeep : ∀ q, q < p8 + 3 → h'[q]? = hp[q]? := fun q hq => by
        rw [hE'.2 q (by rw [List.length_append]; omega) (fun hb0 => by have := hbw q hb0; omega), List.getElem?_append_left (by omega)]
      have hl3' : p8 + 3 ≤ h'.length := by have := hE'.1; rw [List.length_append] at this; omega
      have hbw' : ∀ b, Yg w' = some b → p8 + 3 ≤ b := fun b hb => by
        rcases hb' with hb' | ⟨b', hb1, hb2⟩
        · exact hbw b (hb' ▸ hb)
        · rw [hb1] at hb; cases hb
          rw [List.length_append] at hb2; omega
      have k8 := (hkeep p8 (by omega)).trans f8
      have k9 := (hkeep (p8 + 1) (by omega)).trans f9
      have k2 := (hEh.2 _ (Yj d2) id).trans d2
      have k3 := (hEh.2 _ (Yj d3) id).trans d3
      have kup := Xq huG hEh
      have kvp := Xq hvG hEh
      refine hN26 [(0, u), (1, v), (2, .pointer (some ⟨p2, 0, none⟩)), (3, .pointer (some ⟨p2 + 1, 0, none⟩)), (4, .slice none 0 0), (5, .int .i64 0), (6, w6), (8, .pointer (some ⟨p8, 0, none⟩)), (9, .pointer (some ⟨p8 + 1, 0, none⟩)), (10, .pointer (some ⟨p8 + 2, 0, none⟩)), (11, w'), (13, Zd (x : Nat)), (24, .bool false), (37, w6), (38, Zd xs.length), (39, Zd (k : Nat))] _ _ ?_ (by simp (maxSteps := 2000000) only [vup, cond_true, cond_false, Nat.reduceBEq])
      clear hN26
      try clear N26
      -- what is left of one
      obtain ⟨h8, hh8⟩ : ∃ h8, h8 = h'.set p8 (fC P'.num P'.den) := ⟨_, rfl⟩
      have hE8 : Ext (fun _ => False) G h8 := by rw [hh8]; exact hEh.set_ge (by omega) _
      have j8 : h8[p8]? = some (fC P'.num P'.den) := by rw [hh8]; exact Xs (Yj k8) _
      have j9 : h8[p8 + 1]? = some (fC R.num R.den) := by rw [hh8, List.getElem?_set_ne (by omega)]; exact k9
      have j2 := (hE8.2 _ (Yj d2) id).trans d2
      have j3 := (hE8.2 _ (Yj d3) id).trans d3
      have jvp := Xq hvG hE8
      have jl : h8.length = h'.length := by rw [hh8, List.length_set]
      refine Ze fun N27 hN27 => ?_
      simp only [q55_18]
      refine Yo [(5, 1), (6, 1)] (by kernel_rfl) (by kernel_rfl) (by kernel_rfl) (by kernel_rfl) ?_
      refine Wa 6 rfl fun N1 hN1 => ?_
      simp (maxSteps := 2000000) only [↓Zp, ↓vdn, vup, List.map_cons, List.map_nil, cond_true, cond_false, aop, ev, sput, Zf, Nat.reduceBEq, Nat.reduceAdd, List.take_succ_cons, List.take_zero, Ws k8, load1 k2 Vb, kup.idx Wb Xt hx, kup.load Xl hx, hpe, Yk, List.nil_append, List.append_nil]
      refine ⟨_, _, va h', rfl, ?_⟩
      refine hN1 _ _ ?_
      clear hN1 N1
      refine Wa 1 rfl fun N1 hN1 => ?_
      simp (maxSteps := 2000000) only [↓Zp, ↓vdn, vup, List.map_cons, List.map_nil, cond_true, cond_false, ev, sput, Zf, Nat.reduceBEq, Nat.reduceAdd, List.drop_succ_cons, List.drop_zero, List.take_succ_cons, List.take_zero, Yk, List.nil_append, List.append_nil]
      refine ⟨_, _, plP h', rfl, ?_⟩
      refine hN1 _ _ ?_
      clear hN1 N1
      simp (maxSteps := 2000000) only [↓Zp, ↓vdn, vup, cond_true, cond_false, aop, Zg, ev, Zf, Nat.reduceBEq, Nat.reduceAdd, List.drop_succ_cons, List.drop_zero, qV, frV, Xk k8 rfl]
      rw [← hh8]
      refine hN27 [(0, u), (1, v), (2, .pointer (some ⟨p2, 0, none⟩)), (3, .pointer (some ⟨p2 + 1, 0, none⟩)), (4, .slice none 0 0), (5, .int .i64 0), (6, w6), (8, .pointer (some ⟨p8, 0, none⟩)), (9, .pointer (some ⟨p8 + 1, 0, none⟩)), (10, .pointer (some ⟨p8 + 2, 0, none⟩)), (11, w'), (13, Zd (x : Nat)), (24, .bool false), (37, w6), (38, Zd xs.length), (39, Zd (k : Nat))] _ _ ?_ (by simp (maxSteps := 2000000) only [vup, cond_true, cond_false, Nat.reduceBEq])
      clear hN27
      try clear N27
      obtain ⟨h9, hh9⟩ : ∃ h9, h9 = h8.set (p8 + 1) (fC R'.num R'.den) := ⟨_, rfl⟩
      have hE9 : Ext (fun _ => False) G h9 := by rw [hh9]; exact hE8.set_ge (by omega) _
      have i8 : h9[p8]? = some (fC P'.num P'.den) := by rw [hh9, List.getElem?_set_ne (by omega)]; exact j8
      have i9 : h9[p8 + 1]? = some (fC R'.num R'.den) := by rw [hh9]; exact Xs (Yj j9) _
      have il : h9.length = h'.length := by rw [hh9, List.length_set, jl]
      refine Ze fun N28 hN28 => ?_
      simp only [q55_19]
      refine Yo [(5, 1), (6, 1)] (by kernel_rfl) (by kernel_rfl) (by kernel_rfl) (by kernel_rfl) ?_
      refine Wa 6 rfl fun N1 hN1 => ?_
      simp (maxSteps := 2000000) only [↓Zp, ↓vdn, vup, List.map_cons, List.map_nil, cond_true, cond_false, aop, ev, sput, Zf, Nat.reduceBEq, Nat.reduceAdd, List.take_succ_cons, List.take_zero, Ws j9, load1 j3 Vb, jvp.idx Wb Xt hxy, jvp.load Xl hxy, hqe, Yk, List.nil_append, List.append_nil]
      refine ⟨_, _, vb h8, rfl, ?_⟩
      refine hN1 _ _ ?_
      clear hN1 N1
      refine Wa 1 rfl fun N1 hN1 => ?_
      simp (maxSteps := 2000000) only [↓Zp, ↓vdn, vup, List.map_cons, List.map_nil, cond_true, cond_false, ev, sput, Zf, Nat.reduceBEq, Nat.reduceAdd, List.drop_succ_cons, List.drop_zero, List.take_succ_cons, List.take_zero, Yk, List.nil_append, List.append_nil]
      refine ⟨_, _, plQ h8, rfl, ?_⟩
      refine hN1 _ _ ?_
      clear hN1 N1
      simp (maxSteps := 2000000) only [↓Zp, ↓vdn, vup, cond_true, cond_false, aop, Zg, ev, Zf, Nat.reduceBEq, Nat.reduceAdd, List.drop_succ_cons, List.drop_zero, qV, frV, Xk j9 rfl]
      rw [← hh9]
      refine hN28 [(0, u), (1, v), (2, .pointer (some ⟨p2, 0, none⟩)), (3, .pointer (some ⟨p2 + 1, 0, none⟩)), (4, .slice none 0 0), (5, .int .i64 0), (6, w6), (8, .pointer (some ⟨p8, 0, none⟩)), (9, .pointer (some ⟨p8 + 1, 0, none⟩)), (10, .pointer (some ⟨p8 + 2, 0, none⟩)), (11, w'), (13, Zd (x : Nat)), (24, .bool false), (37, w6), (38, Zd xs.length), (39, Zd (k : Nat))] _ _ ?_ (by simp (maxSteps := 2000000) only [vup, cond_true, cond_false, Nat.reduceBEq])
      clear hN28
      try clear N28
      have i10 : h9[p8 + 2]? = some (fC (gK xs ys L k).num (gK xs ys L k).den) := by
        rw [hh9, List.getElem?_set_ne (by omega), hh8, List.getElem?_set_ne (by omega)]
        exact (hkeep (p8 + 2) (by omega)).trans f10
      refine Zj ?_
      simp (maxSteps := 2000000) only [↓Za, ↓Zb, ↓Zc, vup, List.map_cons, List.map_nil, cond_true, cond_false, aop, Zg, Zn, ev, sput, Zf, Nat.reduceBEq, Yk, List.nil_append, List.append_nil, Ws i8, Ws i9]
      refine (ovK h9).mono ?_
      rintro _ h9 ⟨rfl, rfl⟩
      simp (maxSteps := 2000000) only [qV, frV, Xk i10 rfl]
      obtain ⟨h10, hh10⟩ : ∃ h10, h10 = h9.set (p8 + 2) (fC K'.num K'.den) := ⟨_, rfl⟩
      rw [← hh10]
      refine hB [(0, u), (1, v), (2, .pointer (some ⟨p2, 0, none⟩)), (3, .pointer (some ⟨p2 + 1, 0, none⟩)), (4, .slice none 0 0), (5, .int .i64 0), (6, w6), (8, .pointer (some ⟨p8, 0, none⟩)), (9, .pointer (some ⟨p8 + 1, 0, none⟩)), (10, .pointer (some ⟨p8 + 2, 0, none⟩)), (11, w'), (24, .bool false), (37, w6), (38, Zd xs.length), (39, Zd (k : Nat))] _ _ ?_ (by simp (maxSteps := 2000000) only [vup, cond_true, cond_false, Nat.reduceBEq])
      clear hB
      try clear B
      refine Zj ?_
      simp (maxSteps := 2000000) only [↓Za, ↓Zb, ↓Zc, vup, cond_true, cond_false, aop, ev, sput, Zf, Zz, Ya, Nat.reduceBEq, add1 (show k < 9223372036854775807 by omega)]
      have hE10 : Ext (fun _ => False) G h10 := by rw [hh10]; exact hE9.set_ge (by omega) _
      have hES : Ext (fun i => i = p8 ∨ i = p8 + 1 ∨ i = p8 + 2) h' h10 := by
        rw [hh10, hh9, hh8]
        exact ((Ext.set _ (.inl rfl)).trans (Ext.set _ (.inr (.inl rfl)))).trans (Ext.set _ (.inr (.inr rfl)))
      refine hQ2 _ _ _ ⟨(k + 1, w', h10), ⟨hk', hco', ow'.ext hES (fun b hb hc => by have := hbw' b hb; omega), hE10, ?_, ?_, ?_, ?_, hbw'⟩, by simp only; omega, by simp (maxSteps := 2000000) only [vup, cond_true, cond_false, Nat.reduceBEq], rfl⟩
      · simp only; rw [hh10, List.length_set]; omega
      · simp only; rw [hP', hh10, List.getElem?_set_ne (by omega)]; exact i8
      · simp only; rw [hR', hh10, List.getElem?_set_ne (by omega)]; exact i9
      · simp only; rw [hK', hh10]; exact Xs (Yj i10) _
    · obtain rfl : k = xs.length := by omega
      refine Ze fun N29 hN29 => ?_
      simp (maxSteps := 2000000) only [↓Za, ↓Zb, ↓Zc, vup, cond_true, cond_false, aop, Zg, ev, sput, Zf, Zz, Ya, Nat.reduceBEq, hin]
      refine hN29 [(0, u), (1, v), (2, .pointer (some ⟨p2, 0, none⟩)), (3, .pointer (some ⟨p2 + 1, 0, none⟩)), (4, .slice none 0 0), (5, .int .i64 0), (6, w6), (8, .pointer (some ⟨p8, 0, none⟩)), (9, .pointer (some ⟨p8 + 1, 0, none⟩)), (10, .pointer (some ⟨p8 + 2, 0, none⟩)), (11, w), (24, .bool false), (37, w6), (38, Zd xs.length), (39, Zd xs.length), (40, .bool false)] _ _ ?_ (by simp (maxSteps := 2000000) only [vup, cond_true, cond_false, Nat.reduceBEq])
      clear hN29
      try clear N29
      refine Ze fun N30 hN30 => ?_
      simp (maxSteps := 2000000) only [↓Yn, ↓vdn, vup, cond_true, cond_false, Zg, ev, Nat.reduceBEq]
      refine hQ2 _ _ _ (hQ _ _ _ ?_)
      simp (maxSteps := 2000000) only [Zg, Zn, Zr, if_true]
      exact fin xs.length w hp ⟨hpL, hsL, hk, hco, .inl rfl⟩ ow hEp hl3 f10 hbw _ (by simp (maxSteps := 2000000) only [vup, cond_true, cond_false, Nat.reduceBEq])
end Go.Proofs.Try.Am

namespace Go.Proofs.Try.Am
open Go.Am Bq
set_option maxRecDepth 100000
set_option maxHeartbeats 1000000

end Go.Proofs.Try.Am

namespace Go.Proofs.Try.Am
open Go.Am Bq
set_option maxRecDepth 100000
set_option maxHeartbeats 1000000

end Go.Proofs.Try.Am

namespace Go.Proofs.Try.Am
open Go.Am Bq
set_option maxRecDepth 100000
set_option maxHeartbeats 1000000

end Go.Proofs.Try.Am

namespace Go.Proofs.Try.Am
open Go.Am Bq
set_option maxRecDepth 100000
set_option maxHeartbeats 4000000

end Go.Proofs.Try.Am

namespace Go.Proofs.Try.Am
open Go.Am Bq
set_option maxRecDepth 100000
set_option maxHeartbeats 4000000

/-- Divisors that divide one small number have a common multiple. -/
theorem mulTo_dvd {N : Nat} (hN : 0 < N) (hB : N ≤ 10000000000) : ∀ (ps : List (Int × Int)) (m : Nat), 0 < m → m ∣ N → (∀ p ∈ ps, okP p = true ∧ p.2.natAbs ∣ N) → mulTo ps m ≠ 0
  | [], m, h0, _, _ => by rw [mulTo]; omega
  | p :: ps, m, h0, h1, h => by
    obtain ⟨k1, k2⟩ := h p (by simp)
    have hl : Nat.lcm m p.2.natAbs ∣ N := Nat.lcm_dvd h1 k2
    have hlN := Nat.le_of_dvd hN hl
    have hp0 : 0 < p.2.natAbs := Nat.pos_of_dvd_of_pos k2 hN
    rw [mulTo, if_pos ⟨k1, by omega⟩]
    exact mulTo_dvd hN hB ps _ (Nat.lcm_pos h0 hp0) hl fun q hq => h q (by simp [hq])
theorem okP_of {q : Rat} (h0 : 0 ≤ q) (hd : q.den ≤ 10000000000) : okP (ofQ q) = true := by
  have h1 : 0 ≤ q.num := Rat.num_nonneg.2 h0
  have h2 := q.den_pos
  have h3 := q.reduced
  simp only [okP, ofQ, Bool.and_eq_true, beq_iff_eq]
  refine ⟨⟨⟨decide_eq_true (by omega), decide_eq_true (by omega)⟩, decide_eq_true h1⟩, ?_⟩
  rw [Int.natAbs_natCast]; exact h3
/-- Sums over a list in another order. -/
theorem sumTo_foldr (f : Nat → Rat) (L : List Nat) : Yd (fun j => f (L.getD j 0)) L.length = L.foldr (fun x s => f x + s) 0 := by
  have key : ∀ k, k ≤ L.length → Yd (fun j => f (L.getD j 0)) k + (L.drop k).foldr (fun x s => f x + s) 0 = L.foldr (fun x s => f x + s) 0 := by
    intro k
    induction k with
    | zero => intro _; rw [Yd, List.drop_zero, Rat.zero_add]
    | succ k ih =>
      intro hk
      have h1 := ih (by omega)
      have h2 : L.drop k = L.getD k 0 :: L.drop (k + 1) := by
        rw [List.getD, List.getElem?_eq_getElem (show k < L.length by omega)]; exact List.drop_eq_getElem_cons (by omega)
      rw [h2, List.foldr_cons] at h1
      rw [Yd, Rat.add_assoc]; exact h1
  have := key L.length (Nat.le_refl _)
  rw [List.drop_length, List.foldr_nil, Rat.add_zero] at this
  exact this
theorem sumTo_perm (f : Nat → Rat) {L : List Nat} {n : Nat} (h : L.Perm (List.range n)) : Yd (fun j => f (L.getD j 0)) n = Yd f n := by
  have hl : L.length = n := by rw [h.length_eq, List.length_range]
  have e1 := sumTo_foldr f L
  have e2 := sumTo_foldr f (List.range n)
  rw [hl] at e1
  rw [List.length_range] at e2
  have e3 : Yd (fun j => f ((List.range n).getD j 0)) n = Yd f n := sumTo_congr fun i hi => by
    rw [List.getD, List.getElem?_range hi]; rfl
  rw [e1, ← e3, e2]
  exact h.foldr_eq' (fun x _ y _ z => by grind) 0
/-- Of those that are taken. -/
def onlyT (L : List Nat) (k : Nat) (f : Nat → Rat) (i : Nat) : Rat := if (tkS L k).testBit i then f i else 0
theorem sum_taken {L : List Nat} {n k : Nat} (h : L.Perm (List.range n)) (hk : k ≤ n) (f : Nat → Rat) : Yd (onlyT L k f) n = Yd (fun j => f (L.getD j 0)) k := by
  have hl : L.length = n := by rw [h.length_eq, List.length_range]
  have hnd : L.Nodup := h.nodup_iff.2 List.nodup_range
  rw [← sumTo_perm _ h]
  have key : ∀ m, m ≤ n → Yd (fun j => onlyT L k f (L.getD j 0)) m = Yd (fun j => f (L.getD j 0)) (min m k) := by
    intro m
    induction m with
    | zero => intro _; rw [Nat.zero_min]; rfl
    | succ m ih =>
      intro hm
      rw [Yd, ih (by omega)]
      by_cases hmk : m < k
      · rw [Nat.min_eq_left (by omega), Nat.min_eq_left (by omega), Yd, onlyT, if_pos ((tkS_bit L _ k).2 ⟨m, hmk, rfl⟩)]
      · rw [Nat.min_eq_right (by omega), Nat.min_eq_right (by omega), onlyT, if_neg, Rat.add_zero]
        rw [tkS_bit]
        rintro ⟨j, h1, h2⟩
        rw [List.getD, List.getD, List.getElem?_eq_getElem (show j < L.length by omega), List.getElem?_eq_getElem (show m < L.length by omega)] at h2
        have := (List.getElem_inj hnd).1 h2
        omega
  rw [key n (Nat.le_refl _), Nat.min_eq_right hk]

section
variable {xs ys : List Int} (r : RaceP xs ys) {L : List Nat} {k : Nat} (gp : GrowP xs ys L k)
include r gp
theorem gK_dec {j : Nat} (hj : j < k) : gK xs ys L (j + 1) < gK xs ys L j := by
  have hk := gp.le
  have hc := gp.cond
  have q0 := gQ_pos r gp.perm j (by omega) fun i hi => hc i (by omega)
  have q1 := gQ_pos r gp.perm (j + 1) (by omega) fun i hi => hc i (by omega)
  have hx := g_lt r gp.perm (show j < xs.length by omega)
  obtain ⟨b1, b2, _⟩ := gVb_pos r gp.perm hx
  have ev := gVv_eq r gp.perm hx
  have h1 := hc j hj
  have e0 : gK xs ys L j * gQ ys L j = gP xs L j := Rat.div_mul_cancel (fun h => by rw [h] at q0; exact absurd q0 (by decide))
  have e1 : gK xs ys L (j + 1) * gQ ys L (j + 1) = gP xs L (j + 1) := Rat.div_mul_cancel (fun h => by rw [h] at q1; exact absurd q1 (by decide))
  have sP := gP_step xs L j
  have sQ := gQ_step ys L j
  rw [show (((-1 : Int)) : Rat) = -1 from rfl] at sP sQ
  rw [← Rat.mul_lt_mul_right q1, e1]
  have h2 : gK xs ys L j * gVb ys (L.getD j 0) < gVv xs ys (L.getD j 0) * gVb ys (L.getD j 0) := (Rat.mul_lt_mul_right b1).2 h1
  rw [← sP, ← sQ, ← e0]
  generalize gVv xs ys (L.getD j 0) = v at *
  generalize gVb ys (L.getD j 0) = w at *
  generalize gVa xs (L.getD j 0) = a at *
  generalize gK xs ys L j = K at *
  generalize gQ ys L j = q at *
  grind
theorem gK_lt : ∀ m, m ≤ k → ∀ i, i < m → gK xs ys L m < gVv xs ys (L.getD i 0)
  | 0, _, i, hi => by omega
  | m + 1, hm, i, hi => by
    have h1 := gK_dec r gp (show m < k by omega)
    by_cases him : i = m
    · subst him; exact Std.lt_trans h1 (gp.cond i (by omega))
    · exact Std.lt_trans h1 (gK_lt m (by omega) i (by omega))
theorem gK_eq : gK xs ys L k * gQ ys L k = gP xs L k ∧ 0 < gQ ys L k := by
  have q0 := gQ_pos r gp.perm k gp.le gp.cond
  exact ⟨Rat.div_mul_cancel (fun h => by rw [h] at q0; exact absurd q0 (by decide)), q0⟩
theorem gK_unit : 0 ≤ gK xs ys L k ∧ gK xs ys L k ≤ 1 := by
  have key : ∀ m, m ≤ k → gK xs ys L m ≤ 1 := by
    intro m
    induction m with
    | zero => intro _; rw [gK, gP, gQ, Yd, Yd]; decide +kernel
    | succ m ih =>
      intro hm
      exact Rat.le_trans (Rat.le_of_lt (gK_dec r gp (show m < k by omega))) (ih (by omega))
  obtain ⟨e, q0⟩ := gK_eq r gp
  have hp := (gP_nonneg r gp.perm gp.le).1
  refine ⟨?_, key k (Nat.le_refl _)⟩
  rw [← e] at hp
  rw [← Rat.not_lt]
  intro hn
  have := (Rat.mul_lt_mul_right q0).2 hn
  rw [Rat.zero_mul] at this
  exact absurd hp (Rat.not_le.2 this)
theorem tk_cases {i : Nat} (hi : i < xs.length) : ((tkS L k).testBit i = true ∧ gK xs ys L k < gVv xs ys i) ∨ ((tkS L k).testBit i = false ∧ gVv xs ys i ≤ gK xs ys L k) := by
  have hl : L.length = xs.length := by rw [gp.perm.length_eq, List.length_range]
  cases hb : (tkS L k).testBit i with
  | true =>
    obtain ⟨j, h1, rfl⟩ := (tkS_bit L i k).1 hb
    exact .inl ⟨rfl, gK_lt r gp k (Nat.le_refl _) j h1⟩
  | false =>
    refine .inr ⟨rfl, ?_⟩
    have hm : i ∈ L := gp.perm.mem_iff.2 (List.mem_range.2 hi)
    obtain ⟨j, hj, hji⟩ := List.getElem_of_mem hm
    have hji' : L.getD j 0 = i := by rw [List.getD, List.getElem?_eq_getElem hj]; exact hji
    have hjk : k ≤ j := by
      rcases Nat.lt_or_ge j k with h | h
      · rw [(tkS_bit L i k).2 ⟨j, h, hji'⟩] at hb; cases hb
      · exact h
    rcases gp.stop with hs | hs
    · omega
    · rw [Rat.not_lt] at hs
      refine Rat.le_trans ?_ hs
      by_cases hjk2 : k = j
      · subst hjk2; rw [hji']; exact Rat.le_refl
      · have hp := List.pairwise_iff_getElem.1 gp.srt k j (by omega) hj (by omega)
        rw [hji] at hp
        have hxk := g_lt r gp.perm (show k < xs.length by omega)
        have hgk : L.getD k 0 = L[k]'(by omega) := by rw [List.getD, List.getElem?_eq_getElem (show k < L.length by omega)]; rfl
        rw [← hgk] at hp
        have r1 := Rp.of_frac (N := 12) (by decide) (xs.getD i 0 * ys.getD i 0)
        have r2 := Rp.of_frac (N := 12) (by decide) (xs.getD (L.getD k 0) 0 * ys.getD (L.getD k 0) 0)
        have l5 := r.len
        rw [← Rat.not_lt]
        intro hc
        have := (r2.lt r1).1 hc
        simp only [gKey] at hp
        omega
theorem growQ_taken {i : Nat} (hi : i < xs.length) (hb : (tkS L k).testBit i = true) : Vg xs ys L (gK xs ys L k) k i = (gVv xs ys i - gK xs ys L k) * gVb ys i ∧ 0 < Vg xs ys L (gK xs ys L k) k i := by
  have ev := gVv_eq r gp.perm hi
  obtain ⟨b1, _, _⟩ := gVb_pos r gp.perm hi
  have e : Vg xs ys L (gK xs ys L k) k i = (gVv xs ys i - gK xs ys L k) * gVb ys i := by
    rw [Vg, if_pos hb, ← ev, show (((-1 : Int)) : Rat) = -1 from rfl]; grind
  refine ⟨e, ?_⟩
  rw [e]
  rcases tk_cases r gp hi with ⟨_, h⟩ | ⟨h, _⟩
  · exact Rat.mul_pos (by grind) b1
  · rw [hb] at h; cases h
theorem growQ_sum : Yd (Vg xs ys L (gK xs ys L k) k) xs.length = 1 - gK xs ys L k := by
  have e1 : Yd (Vg xs ys L (gK xs ys L k) k) xs.length = Yd (onlyT L k fun i => gVa xs i + ((-1 : Int) : Rat) * (gK xs ys L k * gVb ys i)) xs.length := rfl
  obtain ⟨e, q0⟩ := gK_eq r gp
  rw [e1, sum_taken gp.perm gp.le, sumTo_add, sumTo_mul, sumTo_mul, show (((-1 : Int)) : Rat) = -1 from rfl]
  have eP : Yd (fun j => gVa xs (L.getD j 0)) k = 1 - gP xs L k := by rw [gP]; grind
  have eQ : Yd (fun j => gVb ys (L.getD j 0)) k = 1 - gQ ys L k := by rw [gQ]; grind
  rw [eP, eQ, ← e]; grind
theorem growQ_bound {i : Nat} (hi : i < xs.length) : 0 ≤ Vg xs ys L (gK xs ys L k) k i ∧ Vg xs ys L (gK xs ys L k) k i ≤ 1 := by
  have h0 : ∀ j, j < xs.length → 0 ≤ Vg xs ys L (gK xs ys L k) k j := fun j hj => by
    cases hb : (tkS L k).testBit j with
    | true => exact Rat.le_of_lt (growQ_taken r gp hj hb).2
    | false => rw [Vg, hb, if_neg (by simp)]; exact Rat.le_refl
  refine ⟨h0 i hi, ?_⟩
  have h1 := sumTo_one (g := Vg xs ys L (gK xs ys L k) k) hi h0
  rw [growQ_sum r gp] at h1
  have := (gK_unit r gp).1
  generalize gK xs ys L k = K at *
  grind
/-- All stakes are parts of one small number. -/
theorem growQ_den {y : Nat} (y0 : 0 < y) (rK : Rp (12 * y) (27720 * (12 - gSum xs L k)) (gK xs ys L k)) {i : Nat} (hi : i < xs.length) : (Vg xs ys L (gK xs ys L k) k i).den ∣ 12 * y := by
  cases hb : (tkS L k).testBit i with
  | false => rw [Vg, hb, if_neg (by simp)]; exact Nat.one_dvd _
  | true =>
    have hbb := r.b i (by have := r.eq; omega)
    obtain ⟨m, hm⟩ : ∃ m : Nat, ys.getD i 0 = m := ⟨(ys.getD i 0).toNat, by omega⟩
    have hmd : m ∣ 27720 := by
      have : ∀ m : Nat, m < 13 → 1 ≤ m → m ∣ 27720 := by decide
      exact this m (by omega) (by omega)
    obtain ⟨t, ht⟩ := hmd
    have hvb : gVb ys i * ((m : Nat) : Rat) = 1 := by
      have := Wj (x := 1) (y := (m : Int)) (by omega)
      rw [gVb, hm]; rw [Rat.intCast_natCast] at this; rw [this]; rfl
    have rKb : Rp (12 * y) ((12 - gSum xs L k) * t) (gK xs ys L k * gVb ys i) := by
      refine ⟨by omega, ?_⟩
      have h2 := rK.2
      have m0 : ((m : Nat) : Rat) ≠ 0 := fun hc => by
        have : m = 0 := by exact_mod_cast hc
        omega
      refine eq_of_mul m0 ?_
      have e1 : gK xs ys L k * gVb ys i * ((12 * y : Nat) : Rat) * (m : Rat) = gK xs ys L k * ((12 * y : Nat) : Rat) * (gVb ys i * (m : Rat)) := by grind
      rw [e1, h2, hvb, Rat.mul_one]
      have e2 : (((27720 * (12 - gSum xs L k) : Int)) : Rat) = (((12 - gSum xs L k) * (t : Int) * (m : Int) : Int) : Rat) := by
        congr 1
        have : ((m * t : Nat) : Int) = 27720 := by rw [← ht]; rfl
        rw [← this, Int.natCast_mul]
        grind
      rw [e2, Rat.intCast_mul, Rat.intCast_natCast]
    have rA := (Rp.of_frac (N := 12) (by decide) (xs.getD i 0)).up y y0
    have := rA.plus rKb (-1)
    rw [Vg, if_pos hb]
    exact this.dvd
theorem fq_growL {i : Nat} (hi : i < xs.length) : fq (Wo xs ys L (gK xs ys L k) k) i = Vg xs ys L (gK xs ys L k) k i := by
  rw [fq, List.getD, Wo, List.getElem?_map, List.getElem?_range hi]; exact toQ_ofQ _
theorem growL_sum : Yd (fq (Wo xs ys L (gK xs ys L k) k)) xs.length = 1 - gK xs ys L k := by
  rw [sumTo_congr fun i hi => fq_growL r gp hi, growQ_sum r gp]
theorem growL_st : stB (Wo xs ys L (gK xs ys L k) k) = true := by
  obtain ⟨y, y0, y1, rQ, rK⟩ := gK_rp r gp.perm gp.le gp.cond
  have hl : (Wo xs ys L (gK xs ys L k) k).length = xs.length := by simp [Wo]
  have hm : Xd (Wo xs ys L (gK xs ys L k) k) ≠ 0 := by
    refine mulTo_dvd (N := 12 * y) (by omega) (by omega) _ 1 (by decide) (Nat.one_dvd _) fun p hp => ?_
    obtain ⟨i, hi, rfl⟩ := List.mem_map.1 hp
    rw [List.mem_range] at hi
    have hd := growQ_den r gp y0 rK hi
    have := Nat.le_of_dvd (by omega) hd
    exact ⟨okP_of (growQ_bound r gp hi).1 (by omega), by rw [ofQ]; exact hd⟩
  simp only [stB, Bool.and_eq_true, decide_eq_true_eq, List.all_eq_true]
  refine ⟨hm, fun p hp => ?_, ?_⟩
  · obtain ⟨i, hi, rfl⟩ := List.mem_map.1 hp
    rw [List.mem_range] at hi
    have h1 := (growQ_bound r gp hi).2
    rw [Rat.le_iff] at h1
    simpa [ofQ] using h1
  · rw [hl, growL_sum r gp]
    have := (gK_unit r gp).1
    generalize gK xs ys L k = K at *
    grind
theorem growL_worth {i : Nat} (hi : i < xs.length) : worthQ ys (Wo xs ys L (gK xs ys L k) k) i = if (tkS L k).testBit i then gVv xs ys i else gK xs ys L k := by
  have hl : (Wo xs ys L (gK xs ys L k) k).length = xs.length := by simp [Wo]
  rw [worthQ, Wc, hl, growL_sum r gp, fq_growL r gp hi]
  cases hb : (tkS L k).testBit i with
  | false =>
    rw [Vg, hb, if_neg (by simp), if_neg (by simp)]; grind
  | true =>
    rw [(growQ_taken r gp hi hb).1, if_pos rfl]
    have hbb := r.b i (by have := r.eq; omega)
    have hvb : gVb ys i * ((ys.getD i 0 : Int) : Rat) = 1 := by
      have := Wj (x := 1) (y := ys.getD i 0) (by omega)
      rw [gVb, this]; rfl
    generalize gVv xs ys i = v at *
    generalize gVb ys i = w at *
    generalize gK xs ys L k = K at *
    generalize ((ys.getD i 0 : Int) : Rat) = b at *
    grind
end
end Go.Proofs.Try.Am

namespace Go.Proofs.Try.Am
open Go.Am Bq
set_option maxRecDepth 100000
set_option maxHeartbeats 4000000

def kAB (ys : List Int) (T : Nat) : Nat → Int × Int
  | 0 => (0, 1)
  | i + 1 => if T.testBit i then ((kAB ys T i).1 * ys.getD i 0 + (kAB ys T i).2, (kAB ys T i).2 * ys.getD i 0) else kAB ys T i
def kPs (xs : List Int) (T : Nat) : Nat → Int
  | 0 => 0
  | i + 1 => if T.testBit i then kPs xs T i else if xs.getD i 0 > 0 then kPs xs T i + xs.getD i 0 else kPs xs T i
def kKp (K : Rat) (T : Nat) : Nat → Rat
  | 0 => 0
  | i + 1 => if T.testBit i then kKp K T i else K
theorem kKp_of (xs : List Int) (K : Rat) (T : Nat) : ∀ i, kPs xs T i ≠ 0 → kKp K T i = K
  | 0, h => absurd rfl h
  | i + 1, h => by
    rw [kPs] at h
    rw [kKp]
    split
    · next hb => rw [if_pos hb] at h; exact kKp_of xs K T i h
    · rfl
section
variable {xs ys : List Int} (r : RaceP xs ys) {L : List Nat} {k : Nat} (gp : GrowP xs ys L k)
include r gp
theorem kAB_rp : ∀ i, i ≤ xs.length → 0 < (kAB ys (tkS L k) i).2 ∧ (kAB ys (tkS L k) i).2 ≤ 12 ^ i ∧ Rp (kAB ys (tkS L k) i).2.toNat (kAB ys (tkS L k) i).1 (Yd (onlyT L k (gVb ys)) i)
  | 0, _ => ⟨by simp [kAB], by simp [kAB], by simp [kAB], by simp [Yd, kAB]⟩
  | i + 1, hi => by
    obtain ⟨h1, h2, h3⟩ := kAB_rp i (by omega)
    have hb := r.b i (by have := r.eq; omega)
    rw [kAB, Yd, onlyT]
    cases ht : (tkS L k).testBit i with
    | false =>
      rw [if_neg (by simp), if_neg (by simp), Rat.add_zero]
      refine ⟨h1, ?_, h3⟩
      rw [Int.pow_succ]
      have : (0 : Int) ≤ 12 ^ i := by omega
      omega
    | true =>
      rw [if_pos rfl, if_pos rfl]
      obtain ⟨o, ho⟩ : ∃ o, ys.getD i 0 = o := ⟨_, rfl⟩
      have e2 := Wj (x := 1) (y := ys.getD i 0) (by omega)
      rw [gVb]
      rw [ho] at hb e2 ⊢
      obtain ⟨a, ha⟩ : ∃ a, (kAB ys (tkS L k) i).1 = a := ⟨_, rfl⟩
      obtain ⟨b, hbb⟩ : ∃ b, (kAB ys (tkS L k) i).2 = b := ⟨_, rfl⟩
      rw [ha, hbb] at h3
      rw [hbb] at h1 h2
      rw [ha, hbb]
      simp only
      refine ⟨Int.mul_pos h1 (by omega), ?_, ?_, ?_⟩
      · rw [Int.pow_succ]
        exact Int.mul_le_mul h2 hb.2 (by omega) (by omega)
      · have := Int.mul_pos h1 (show 0 < o by omega)
        omega
      · have h4 := h3.2
        have p0 := Int.mul_pos h1 (show 0 < o by omega)
        have c1 : ((b.toNat : Nat) : Rat) = ((b : Int) : Rat) := by
          rw [← Rat.intCast_natCast]; congr 1; omega
        have c2 : (((b * o).toNat : Nat) : Rat) = ((b : Int) : Rat) * ((o : Int) : Rat) := by
          rw [← Rat.intCast_mul, ← Rat.intCast_natCast]; congr 1; omega
        rw [c1] at h4
        rw [c2, Rat.intCast_add, Rat.intCast_mul, ← h4]
        rw [show (((1 : Int)) : Rat) = 1 from rfl] at e2
        generalize Rat.divInt 1 o = w at *
        generalize Yd (onlyT L k (gVb ys)) i = s at *
        grind
theorem kAB_le {i : Nat} (hi : i ≤ xs.length) : 0 ≤ (kAB ys (tkS L k) i).1 ∧ (kAB ys (tkS L k) i).1 ≤ (kAB ys (tkS L k) i).2 := by
  obtain ⟨h1, h2, h3⟩ := kAB_rp r gp i hi
  have n0 : ∀ j, j < xs.length → 0 ≤ onlyT L k (gVb ys) j := fun j hj => by
    rw [onlyT]; split
    · exact Rat.le_of_lt (gVb_pos r gp.perm hj).1
    · exact Rat.le_refl
  have s0 := Vl (n := i) fun j hj => n0 j (by omega)
  have s1 := sumTo_mono hi n0
  rw [sum_taken gp.perm gp.le] at s1
  have hq := (gK_eq r gp).2
  rw [gQ] at hq
  have z : Rp (kAB ys (tkS L k) i).2.toNat 0 (0 : Rat) := ⟨by omega, by simp⟩
  have o : Rp (kAB ys (tkS L k) i).2.toNat (kAB ys (tkS L k) i).2 (1 : Rat) := ⟨by omega, by rw [Rat.one_mul, ← Rat.intCast_natCast]; congr 1; omega⟩
  refine ⟨?_, ?_⟩
  · rw [← Rat.not_lt, h3.lt z] at s0; omega
  · have : Yd (onlyT L k (gVb ys)) i ≤ 1 := by
      generalize Yd (onlyT L k (gVb ys)) i = t at *
      generalize Yd (fun j => gVb ys (L.getD j 0)) k = t2 at *
      grind
    rw [← Rat.not_lt, o.lt h3] at this; omega
theorem kPs_rp : ∀ i, i ≤ xs.length → 0 ≤ kPs xs (tkS L k) i ∧ kPs xs (tkS L k) i ≤ 12 * i ∧ Rp 12 (kPs xs (tkS L k) i) (Yd (gVa xs) i + ((-1 : Int) : Rat) * Yd (onlyT L k (gVa xs)) i)
  | 0, _ => ⟨by simp [kPs], by simp [kPs], by decide, by simp [Yd, kPs]; decide +kernel⟩
  | i + 1, hi => by
    obtain ⟨h1, h2, h3⟩ := kPs_rp i (by omega)
    have ha := r.a i (by omega)
    have hr := Rp.of_frac (N := 12) (by decide) (xs.getD i 0)
    rw [kPs, Yd, Yd, onlyT]
    rw [show (((-1 : Int)) : Rat) = -1 from rfl] at h3 ⊢
    cases ht : (tkS L k).testBit i with
    | true =>
      rw [if_pos rfl, if_pos rfl]
      refine ⟨h1, by omega, ?_⟩
      have e : Yd (gVa xs) i + gVa xs i + -1 * (Yd (onlyT L k (gVa xs)) i + gVa xs i) = Yd (gVa xs) i + -1 * Yd (onlyT L k (gVa xs)) i := by grind
      rw [e]; exact h3
    | false =>
      rw [if_neg (show ¬ (false = true) by simp), if_neg (show ¬ (false = true) by simp)]
      have e : Yd (gVa xs) i + gVa xs i + -1 * (Yd (onlyT L k (gVa xs)) i + 0) = Yd (gVa xs) i + -1 * Yd (onlyT L k (gVa xs)) i + ((1 : Int) : Rat) * gVa xs i := by rw [show (((1 : Int)) : Rat) = 1 from rfl]; grind
      rw [e]
      have h4 := h3.plus hr 1
      by_cases hc : xs.getD i 0 > 0
      · rw [if_pos hc]
        refine ⟨by omega, by omega, ?_⟩
        rw [show kPs xs (tkS L k) i + xs.getD i 0 = kPs xs (tkS L k) i + 1 * xs.getD i 0 by omega]; exact h4
      · rw [if_neg hc]
        refine ⟨h1, by omega, ?_⟩
        rw [show kPs xs (tkS L k) i = kPs xs (tkS L k) i + 1 * xs.getD i 0 by omega]; exact h4
theorem gVa_sum : Yd (gVa xs) xs.length = 1 := by
  have key : ∀ i, Rp 12 (pSum xs i) (Yd (gVa xs) i) := by
    intro i
    induction i with
    | zero => exact ⟨by decide, by simp [Yd, pSum]⟩
    | succ i ih =>
      have := ih.plus (Rp.of_frac (N := 12) (by decide) (xs.getD i 0)) 1
      rw [show pSum xs i + 1 * xs.getD i 0 = pSum xs (i + 1) by rw [pSum]; omega, show (((1 : Int)) : Rat) = 1 from rfl, Rat.one_mul] at this
      exact this
  have := key xs.length
  rw [r.sum] at this
  exact this.uniq ⟨by decide, by decide +kernel⟩
theorem kPs_total : Rp 12 (kPs xs (tkS L k) xs.length) (gP xs L k) := by
  have h := (kPs_rp r gp xs.length (Nat.le_refl _)).2.2
  rw [gVa_sum r gp, sum_taken gp.perm gp.le] at h
  have e : (1 : Rat) + ((-1 : Int) : Rat) * Yd (fun j => gVa xs (L.getD j 0)) k = gP xs L k := by
    rw [gP, show (((-1 : Int)) : Rat) = -1 from rfl]; grind
  rwa [e] at h
/-- Nothing may win but what is staked on: nothing is kept. -/
theorem kept_zero (h : kPs xs (tkS L k) xs.length = 0) : gK xs ys L k = 0 := by
  have h1 := (kPs_total r gp).2
  obtain ⟨e, q0⟩ := gK_eq r gp
  rw [h] at h1
  have hp : gP xs L k = 0 := by
    refine eq_of_mul (c := ((12 : Nat) : Rat)) (by decide) ?_
    rw [h1, Rat.zero_mul]; rfl
  rw [hp] at e
  rcases Rat.mul_eq_zero.1 e with h | h
  · exact h
  · rw [h] at q0; exact absurd q0 (by decide)
theorem kept_eq : kPs xs (tkS L k) xs.length * ((gK xs ys L k).den : Int) * (kAB ys (tkS L k) xs.length).2 = 12 * (gK xs ys L k).num * ((kAB ys (tkS L k) xs.length).2 - (kAB ys (tkS L k) xs.length).1) := by
  have h1 := (kPs_total r gp).2
  obtain ⟨e, q0⟩ := gK_eq r gp
  obtain ⟨b0, b1, b2⟩ := kAB_rp r gp xs.length (Nat.le_refl _)
  rw [sum_taken gp.perm gp.le] at b2
  have h2 := b2.2
  have hq : Yd (fun j => gVb ys (L.getD j 0)) k = 1 - gQ ys L k := by rw [gQ]; grind
  rw [hq] at h2
  have h3 := mul_den (gK xs ys L k)
  obtain ⟨a, ha⟩ : ∃ a, (kAB ys (tkS L k) xs.length).1 = a := ⟨_, rfl⟩
  obtain ⟨b, hbb⟩ : ∃ b, (kAB ys (tkS L k) xs.length).2 = b := ⟨_, rfl⟩
  rw [ha, hbb] at h2
  rw [hbb] at b0
  rw [ha, hbb]
  have c1 : ((b.toNat : Nat) : Rat) = ((b : Int) : Rat) := by
    rw [← Rat.intCast_natCast]; congr 1; omega
  rw [c1] at h2
  have t1 : (((12 : Nat)) : Rat) = 12 := rfl
  rw [t1] at h1
  have goal : (((kPs xs (tkS L k) xs.length * ((gK xs ys L k).den : Int) * b : Int)) : Rat) = ((12 * (gK xs ys L k).num * (b - a) : Int) : Rat) := by
    rw [Rat.intCast_mul, Rat.intCast_mul, Rat.intCast_mul, Rat.intCast_mul, Rat.intCast_sub, ← h2, ← h1, ← h3, Rat.intCast_natCast, show (((12 : Int)) : Rat) = 12 from rfl, ← e]
    generalize gK xs ys L k = K at *
    generalize gQ ys L k = Q at *
    generalize ((b : Int) : Rat) = B at *
    grind
  exact_mod_cast goal
end
end Go.Proofs.Try.Am

namespace Go.Proofs.Try.Am
open Go.Am Bq
set_option maxRecDepth 100000
set_option maxHeartbeats 1000000

/-- A row's fractions. -/
def rowC (T : Ww) (k i : Nat) : List (Int × Int) := (List.range (k + 1)).map fun c => ofQ (T i c)
theorem rowC_len (T : Ww) (k i : Nat) : (rowC T k i).length = k + 1 := by simp [rowC]
theorem rowC_get (T : Ww) {k i c : Nat} (hc : c ≤ k) : (rowC T k i).getD c (0, 0) = ofQ (T i c) := by
  simp [rowC, List.getD, show c < k + 1 by omega]
def upd (T : Ww) (i c : Nat) (x : Rat) : Ww := fun a d => if a = i ∧ d = c then x else T a d
theorem rowC_upd (T : Ww) {k i c : Nat} (hc : c ≤ k) (x : Rat) : (rowC T k i).set c (ofQ x) = rowC (upd T i c x) k i := by
  apply List.ext_getElem?
  intro d
  rw [List.getElem?_set, rowC_len]
  by_cases h : c = d
  · subst h
    rw [if_pos rfl, if_pos (by omega)]
    simp [rowC, show c < k + 1 by omega, upd]
  · rw [if_neg h]
    simp only [rowC, List.getElem?_map]
    by_cases hd : d < k + 1
    · simp [hd, upd, Ne.symm h]
    · rw [List.getElem?_eq_none (by simp; omega)]; rfl
theorem rowC_congr {T T' : Ww} {k i : Nat} (h : ∀ c, c ≤ k → T i c = T' i c) : rowC T k i = rowC T' k i :=
  List.map_congr_left fun c hc => by rw [h c (by have := List.mem_range.1 hc; omega)]
theorem rowC_other (T : Ww) {k i i' c : Nat} (hi : i' ≠ i) (x : Rat) : rowC (upd T i c x) k i' = rowC T k i' := rowC_congr fun d _ => by simp [upd, hi]

/-- Equations: the slice's block, the rows' blocks. -/
structure Mat (h : Zh) (B m k : Nat) (w : Nat → Value) (bk : Nat → Nat) (T : Ww) : Prop where
  outer : ∃ us, h[B]? = some (.cells ((List.range m).map w ++ us) 47 false)
  row : ∀ i, i < m → ∃ c xs, w i = .slice (some ⟨bk i, 0, some 0⟩) (k + 1) c ∧ k + 1 ≤ c ∧ h[bk i]? = some (.ints (Yb (rowC T k i) ++ xs) 26 false)
  inj : ∀ i j, i < m → j < m → bk i = bk j → i = j
  sep : ∀ i, i < m → bk i ≠ B
section
variable {h h' : Zh} {B m k C : Nat} {w : Nat → Value} {bk : Nat → Nat} {T T' : Ww}
theorem Mat.lt (M : Mat h B m k w bk T) {i : Nat} (hi : i < m) : bk i < h.length := by
  obtain ⟨c, xs, _, _, h3⟩ := M.row i hi; exact Yj h3
theorem Mat.blt (M : Mat h B m k w bk T) : B < h.length := by
  obtain ⟨us, h1⟩ := M.outer; exact Yj h1
theorem Mat.ext (M : Mat h B m k w bk T) (hE : Ext (fun _ => False) h h') : Mat h' B m k w bk T where
  outer := by
    obtain ⟨us, h1⟩ := M.outer
    exact ⟨us, (hE.2 _ (Yj h1) id).trans h1⟩
  row i hi := by
    obtain ⟨c, xs, h1, h2, h3⟩ := M.row i hi
    exact ⟨c, xs, h1, h2, (hE.2 _ (Yj h3) id).trans h3⟩
  inj := M.inj
  sep := M.sep
theorem Mat.congr (M : Mat h B m k w bk T) (hT : ∀ i c, i < m → c ≤ k → T i c = T' i c) : Mat h B m k w bk T' where
  outer := M.outer
  row i hi := by
    obtain ⟨c, xs, h1, h2, h3⟩ := M.row i hi
    exact ⟨c, xs, h1, h2, by rw [← rowC_congr fun c hc => hT i c hi hc]; exact h3⟩
  inj := M.inj
  sep := M.sep
theorem Mat.idx (i : Nat) (hi : i < m) {K : Value → Prop} : Yx prog 103 (.slice (some ⟨B, 0, some 0⟩) m C) (Zd (i : Nat)) K = K (.pointer (some ⟨B, i, none⟩)) := by
  simp only [Yx, el_103, esz_47, Int.natCast_nonneg, Int.toNat_natCast, Nat.mul_one, Nat.zero_add, true_and, Int.ofNat_lt.2 hi]
theorem Mat.loadRow (M : Mat h B m k w bk T) {i : Nat} (hi : i < m) {K : Value → Prop} : Xm prog h 47 (.pointer (some ⟨B, i, none⟩)) K = K (w i) := by
  obtain ⟨us, h1⟩ := M.outer
  refine loadC h1 shp_47 ?_
  rw [List.getElem?_append_left (by simpa using hi)]
  simp [hi]
theorem Mat.lenR (M : Mat h B m k w bk T) {i : Nat} (hi : i < m) {K : Value → Prop} : lenK (w i) K = K (Zd ((k + 1 : Nat) : Int)) := by
  obtain ⟨c, xs, h1, h2, h3⟩ := M.row i hi
  rw [h1]; rfl
theorem Mat.idxR (M : Mat h B m k w bk T) {i c : Nat} (hi : i < m) (hc : c ≤ k) {K : Value → Prop} : Yx prog 47 (w i) (Zd (c : Nat)) K = K (.pointer (some ⟨bk i, c * 2, none⟩)) := by
  obtain ⟨cc, xs, h1, h2, h3⟩ := M.row i hi
  rw [h1]
  simp only [Yx, Vo, Xw, Int.natCast_nonneg, Int.toNat_natCast, Nat.zero_add, true_and, show ((c : Nat) : Int) < ((k + 1 : Nat) : Int) by omega]
theorem flat_two (ps : List (Int × Int)) (ys : List Int) {i : Nat} (hi : i < ps.length) : ((Yb ps ++ ys).drop (i * 2)).take 2 = [(ps.getD i (0, 0)).1, (ps.getD i (0, 0)).2] ∧ i * 2 + 2 ≤ (Yb ps ++ ys).length ∧ (Yb ps ++ ys).getD (i * 2) 0 = (ps.getD i (0, 0)).1 := by
  obtain ⟨h1, h2⟩ := flatP_get ps i hi
  have hl := Xr ps
  have g1 : (Yb ps ++ ys)[i * 2]? = some (ps.getD i (0, 0)).1 := by rw [List.getElem?_append_left (by omega)]; exact h1
  have g2 : (Yb ps ++ ys)[i * 2 + 1]? = some (ps.getD i (0, 0)).2 := by rw [List.getElem?_append_left (by omega)]; exact h2
  refine ⟨?_, by rw [List.length_append]; omega, by rw [List.getD, g1]; rfl⟩
  obtain ⟨l1, e1⟩ := List.getElem?_eq_some_iff.1 g1
  obtain ⟨l2, e2⟩ := List.getElem?_eq_some_iff.1 g2
  rw [List.drop_eq_getElem_cons l1, List.take_succ_cons, List.drop_eq_getElem_cons l2, List.take_succ_cons, List.take_zero, e1, e2]
theorem Mat.loadE (M : Mat h B m k w bk T) {i c : Nat} (hi : i < m) (hc : c ≤ k) {K : Value → Prop} : Xm prog h 26 (.pointer (some ⟨bk i, c * 2, none⟩)) K = K (qV (T i c)) := by
  obtain ⟨cc, xs, h1, h2, h3⟩ := M.row i hi
  obtain ⟨f1, f2, f3⟩ := flat_two (rowC T k i) xs (show c < (rowC T k i).length by rw [rowC_len]; omega)
  rw [rowC_get T hc] at f1
  simp only [Xm, Wv, Xh, h3, f1, f2, true_and]
  rfl
theorem Mat.loadN (M : Mat h B m k w bk T) {i c : Nat} (hi : i < m) (hc : c ≤ k) {K : Value → Prop} : Xm prog h 3 (.pointer (some ⟨bk i, c * 2, none⟩)) K = K (Zd (T i c).num) := by
  obtain ⟨cc, xs, h1, h2, h3⟩ := M.row i hi
  obtain ⟨f1, f2, f3⟩ := flat_two (rowC T k i) xs (show c < (rowC T k i).length by rw [rowC_len]; omega)
  rw [rowC_get T hc] at f3
  simp only [Xm, Xl, cellK, h3, f3, show c * 2 < (Yb (rowC T k i) ++ xs).length by omega, true_and]
  rfl
theorem fA0o {b o : Nat} {K : Value → Prop} : Yu prog 26 (.pointer (some ⟨b, o, none⟩)) 0 K = K (.pointer (some ⟨b, o, none⟩)) := by
  simp [Yu, fld_26_0, Xt]
/-- A number is written. -/
theorem Mat.storeE (M : Mat h B m k w bk T) {i c : Nat} (hi : i < m) (hc : c ≤ k) (x : Rat) : ∃ h', (∀ K : Zh → Prop, Xf prog h 26 (.pointer (some ⟨bk i, c * 2, none⟩)) (qV x) K = K h') ∧ Mat h' B m k w bk (upd T i c x) ∧ Ext (fun b => b = bk i) h h' ∧ ∀ b, b ≠ bk i → h'[b]? = h[b]? := by
  obtain ⟨cc, xs, h1, h2, h3⟩ := M.row i hi
  refine ⟨h.set (bk i) (.ints (Yb (rowC (upd T i c x) k i) ++ xs) 26 false), fun K => ?_, ⟨?_, ?_, M.inj, M.sep⟩, Ext.set _ rfl, fun b hb => List.getElem?_set_ne (Ne.symm hb)⟩
  · rw [← rowC_upd T hc x]
    exact storePI h3 Wv (by rw [rowC_len]; omega)
  · obtain ⟨us, g1⟩ := M.outer
    exact ⟨us, by rw [List.getElem?_set_ne (M.sep i hi)]; exact g1⟩
  · intro j hj
    by_cases hji : j = i
    · subst hji
      exact ⟨cc, xs, h1, h2, Xs (M.lt hj) _⟩
    · obtain ⟨c2, xs2, g1, g2, g3⟩ := M.row j hj
      refine ⟨c2, xs2, g1, g2, ?_⟩
      rw [List.getElem?_set_ne (fun he => hji (M.inj _ _ hj hi he.symm)), rowC_other T hji]
      exact g3
def swp {α : Type} (a p : Nat) (w : Nat → α) : Nat → α := fun i => if i = a then w p else if i = p then w a else w i
theorem set_range {α : Type} (w : Nat → α) {m i : Nat} (us : List α) (x : α) (hi : i < m) : ((List.range m).map w ++ us).set i x = (List.range m).map (fun j => if j = i then x else w j) ++ us := by
  rw [List.set_append_left _ _ (by simpa using hi)]
  congr 1
  apply List.ext_getElem?
  intro j
  rw [List.getElem?_set, List.length_map, List.length_range]
  by_cases h : i = j
  · subst h; simp [hi]
  · rw [if_neg h, List.getElem?_map, List.getElem?_map]
    by_cases hj : j < m
    · simp [hj, Ne.symm h]
    · rw [List.getElem?_eq_none (by simp; omega)]; rfl
/-- Two rows change places. -/
theorem Mat.swap (M : Mat h B m k w bk T) {a p : Nat} (ha : a < m) (hp : p < m) : ∃ h1 h2, (∀ K : Zh → Prop, Xf prog h 47 (.pointer (some ⟨B, a, none⟩)) (w p) K = K h1) ∧ (∀ K : Zh → Prop, Xf prog h1 47 (.pointer (some ⟨B, p, none⟩)) (w a) K = K h2) ∧
    Mat h2 B m k (swp a p w) (swp a p bk) (swapT a p T) ∧ Ext (fun b => b = B) h h2 ∧ ∀ b, b ≠ B → h2[b]? = h[b]? := by
  obtain ⟨us, g1⟩ := M.outer
  have one_w : ∀ i, i < m → one (w i) = true := fun i hi => by
    obtain ⟨c, xs, e1, _⟩ := M.row i hi
    rw [e1]; rfl
  have hl : ∀ i, i < m → i < ((List.range m).map w ++ us).length := fun i hi => by simp; omega
  have s1 : ∀ K : Zh → Prop, Xf prog h 47 (.pointer (some ⟨B, a, none⟩)) (w p) K = K (h.set B (.cells ((List.range m).map (fun j => if j = a then w p else w j) ++ us) 47 false)) := fun K => by
    rw [storeC g1 shp_47 (one_w p hp) (hl a ha), set_range w us _ ha]
  have g2 : (h.set B (.cells ((List.range m).map (fun j => if j = a then w p else w j) ++ us) 47 false))[B]? = some (.cells ((List.range m).map (fun j => if j = a then w p else w j) ++ us) 47 false) := Xs M.blt _
  have s2 : ∀ K : Zh → Prop, Xf prog (h.set B (.cells ((List.range m).map (fun j => if j = a then w p else w j) ++ us) 47 false)) 47 (.pointer (some ⟨B, p, none⟩)) (w a) K =
      K (h.set B (.cells ((List.range m).map (swp a p w) ++ us) 47 false)) := fun K => by
    rw [storeC g2 shp_47 (one_w a ha) (by simp; omega), set_range _ us _ hp, List.set_set]
    have : (fun j => if j = p then w a else if j = a then w p else w j) = swp a p w := by
      funext j
      simp only [swp]
      by_cases h1 : j = p
      · subst h1
        by_cases h2 : j = a
        · subst h2; simp
        · simp [h2]
      · simp [h1]
    rw [this]
  have hcase : ∀ i, i < m → ∃ i', i' < m ∧ swp a p w i = w i' ∧ swp a p bk i = bk i' ∧ swapT a p T i = T i' ∧ i' = swp a p id i := fun i hi => by
    by_cases h1 : i = a
    · exact ⟨p, hp, by simp [swp, h1], by simp [swp, h1], by simp [swapT, h1], by simp [swp, h1]⟩
    · by_cases h2 : i = p
      · subst h2; exact ⟨a, ha, by simp [swp, h1], by simp [swp, h1], by simp [swapT, h1], by simp [swp, h1]⟩
      · exact ⟨i, hi, by simp [swp, h1, h2], by simp [swp, h1, h2], by simp [swapT, h1, h2], by simp [swp, h1, h2]⟩
  refine ⟨_, _, s1, s2, ⟨⟨us, Xs M.blt _⟩, fun i hi => ?_, fun i j hi hj he => ?_, fun i hi => ?_⟩, Ext.set _ rfl, fun b hb => List.getElem?_set_ne (Ne.symm hb)⟩
  · obtain ⟨i', q1, q2, q3, q4, _⟩ := hcase i hi
    obtain ⟨c, xs, e1, e2, e3⟩ := M.row i' q1
    refine ⟨c, xs, by rw [q2, q3]; exact e1, e2, ?_⟩
    rw [q3, List.getElem?_set_ne (fun he => M.sep i' q1 he.symm), show rowC (swapT a p T) k i = rowC T k i' by simp only [rowC, q4]]
    exact e3
  · obtain ⟨i', q1, _, q3, _, q5⟩ := hcase i hi
    obtain ⟨j', r1, _, r3, _, r5⟩ := hcase j hj
    rw [q3, r3] at he
    have := M.inj _ _ q1 r1 he
    rw [q5, r5] at this
    simp only [swp, id] at this
    grind
  · obtain ⟨i', q1, _, q3, _⟩ := hcase i hi
    rw [q3]; exact M.sep i' q1
/-- The rows from one on. -/
theorem Mat.tail (M : Mat h B m k w bk T) {a : Nat} (ha : a < m) (hC : m ≤ C) {K : Value → Prop} (hk : ∀ v, ValSl h v ((List.range (m - a)).map fun i => w (a + i)) → K v) : Yz prog 103 (.slice (some ⟨B, 0, some 0⟩) m C) (some (Zd (a : Nat))) none none K := by
  obtain ⟨us, g1⟩ := M.outer
  have hv : view h B = some ((List.range m).map w ++ us, 47, false) := by simp [view, g1, Blk.view]
  have e1 : (((List.range m).map w ++ us).drop a).take (m - a) = (List.range (m - a)).map fun i => w (a + i) := by
    apply List.ext_getElem?
    intro i
    rw [List.getElem?_take]
    by_cases hi : i < m - a
    · rw [if_pos hi, List.getElem?_drop, List.getElem?_append_left (by simp; omega)]
      simp [hi, show a + i < m by omega]
    · rw [if_neg hi, List.getElem?_eq_none (by simp; omega)]
  have key : ∀ v, v = .slice (some ⟨B, a, some 0⟩) (m - a) (C - a) → K v := fun v hv' => hk v (.inr ⟨B, a, some 0, C - a, _, _, _, by rw [hv']; simp, by simp; omega, hv, by simp only [List.length_map, List.length_range]; exact e1⟩)
  simp only [Yz, el_103, esz_47, bnd]
  refine ⟨by omega, by omega, by omega, fun h0 => by simp at h0, fun _ => ?_⟩
  rcases Nat.eq_zero_or_pos a with h0 | h0
  · subst h0
    exact .inl ⟨rfl, key _ (by simp)⟩
  · refine .inr ⟨by omega, .inl ⟨by omega, by decide, key _ ?_⟩⟩
    have e2 : ((m : Int) - (a : Int)).toNat = m - a := by omega
    have e3 : C - ((a : Int)).toNat = C - a := by omega
    simp [e2]
end

/-- The first one, as a number; less than 0: there is none. -/
def fstI (n : Nat) (F : Nat → Bool) : Int := match (List.range n).find? F with | some i => (i : Int) | none => -1

theorem s111_callW [Tabs Try.prog] {args : List Value} {h : Zh} {Q : Value → Zh → Prop} (hsz : args.length ≤ 19) (hk : AWS Try.prog 19 s111 (Zr Try.prog [.tmp 4] Q) (Zt 0 args) h) : ACall Try.prog 111 args h Q :=
  Ym Try.func111 rfl (enters_of Try.func111 (by kernel_rfl) rfl) rfl rfl (by decide) s111_strip s111_ok hsz hk
theorem idxRow_call [Tabs prog] {h : Zh} {v : Value} {ws : List Value} {g : FuncId} {cap : Array Value} {F : Nat → Bool} (hv : ValSl h v ws) (hl : ws.length < 9223372036854775808)
    (hc : ∀ i, i < ws.length → Yv prog g ([ws.getD i undef] ++ cap.toList) h (.bool (F i))) : Yv prog 111 [v, .func (.func g) #[] cap] h (Zd (fstI ws.length F)) := by
  refine s111_callW (by simp) ?_
  simp only [s111]
  refine Ze fun N1 hN1 => ?_
  simp (maxSteps := 2000000) only [↓Za, ↓Zb, ↓Zc, vup, cond_false, aop, Zg, Zt, ev, sput, Zf, Nat.reduceBEq, Nat.reduceAdd]
  refine hN1 [(0, v), (1, .func (.func g) #[] cap), (4, .int .i64 0)] _ _ ?_ (by simp (maxSteps := 2000000) only [vup, cond_true, cond_false, Nat.reduceBEq])
  clear hN1
  try clear N1
  refine Zk fun Z hZ => ?_
  refine Ze fun N2 hN2 => ?_
  simp (maxSteps := 2000000) only [↓Za, ↓Zb, ↓Zc, vup, List.map_cons, List.map_nil, cond_true, cond_false, aop, Zg, ev, sput, Zf, Zi, Nat.reduceBEq, tyf, hv.len]
  refine hN2 [(0, v), (1, .func (.func g) #[] cap), (4, .int .i64 0), (6, v), (7, Zd ws.length), (8, .int .i64 0)] _ _ ?_ (by simp (maxSteps := 2000000) only [vup, cond_true, cond_false, Nat.reduceBEq])
  clear hN2
  try clear N2
  refine Zl ?_
  refine Zm fun Q hQ => ?_
  refine Yh (γ := Nat) (fun k => k ≤ ws.length ∧ ∀ i, i < k → F i = false)
    (fun k => ([(0, v), (1, .func (.func g) #[] cap), (4, .int .i64 0), (6, v), (7, Zd ws.length), (8, Zd (k : Nat))], h)) (fun k => ws.length - k) 0 ⟨Nat.zero_le _, fun i hi => by omega⟩ (by simp (maxSteps := 2000000) only [vup, cond_true, cond_false, Nat.reduceBEq, Int.natCast_zero]) rfl ?_
  rintro k ⟨hk, hall⟩
  refine Zm fun Q2 hQ2 => ?_
  simp only [l111_0]
  by_cases hin : (k : Int) < ws.length
  · have hk' : k < ws.length := by omega
    refine Ze fun N3 hN3 => ?_
    simp (maxSteps := 2000000) only [↓Za, ↓Zb, ↓Zc, vup, cond_true, cond_false, aop, Zg, ev, sput, Zf, Zz, Ya, Nat.reduceBEq, hin]
    refine hN3 [(0, v), (1, .func (.func g) #[] cap), (4, .int .i64 0), (6, v), (7, Zd ws.length), (8, Zd (k : Nat)), (9, .bool true)] _ _ ?_ (by simp (maxSteps := 2000000) only [vup, cond_true, cond_false, Nat.reduceBEq])
    clear hN3
    try clear N3
    refine Ze fun N4 hN4 => ?_
    simp (maxSteps := 2000000) only [↓Zo, ↓vdn, vup, cond_true, cond_false, Zg, ev, Nat.reduceBEq]
    refine hN4 [(0, v), (1, .func (.func g) #[] cap), (4, .int .i64 0), (6, v), (7, Zd ws.length), (8, Zd (k : Nat))] _ _ ?_ (by simp (maxSteps := 2000000) only [vup, cond_true, cond_false, Nat.reduceBEq])
    clear hN4
    try clear N4
    refine Zk fun B hB => ?_
    refine Zl ?_
    refine Ze fun N5 hN5 => ?_
    simp (maxSteps := 2000000) only [↓Za, ↓Zb, ↓Zc, vup, cond_true, cond_false, aop, Zg, ev, sput, Zf, Nat.reduceBEq]
    refine hN5 [(0, v), (1, .func (.func g) #[] cap), (4, .int .i64 0), (5, Zd (k : Nat)), (6, v), (7, Zd ws.length), (8, Zd (k : Nat))] _ _ ?_ (by simp (maxSteps := 2000000) only [vup, cond_true, cond_false, Nat.reduceBEq])
    clear hN5
    try clear N5
    refine Ze fun N6 hN6 => ?_
    simp (maxSteps := 2000000) only [↓Za, ↓Zb, ↓Zc, vup, List.map_cons, List.map_nil, cond_true, cond_false, aop, Zg, ev, sput, Zf, Nat.reduceBEq, hv.idx el_103 esz_47 hk', hv.load shp_47 hk', Yk, List.nil_append]
    refine (hc k hk').mono ?_
    rintro _ h ⟨rfl, rfl⟩
    refine hN6 [(0, v), (1, .func (.func g) #[] cap), (4, .int .i64 0), (5, Zd (k : Nat)), (6, v), (7, Zd ws.length), (8, Zd (k : Nat)), (16, .bool (F k))] _ _ ?_ (by simp (maxSteps := 2000000) only [vup, cond_true, cond_false, Nat.reduceBEq])
    clear hN6
    try clear N6
    refine Zj ?_
    cases hf : F k with
    | true =>
      simp (maxSteps := 2000000) only [↓Za, ↓Zs, ↓Zx, ↓Zb, ↓Zc, ↓vdn, vup, cond_true, cond_false, aop, Zg, Zn, ev, sput, Zf, Nat.reduceBEq]
      refine hQ2 _ _ _ (hQ _ _ _ ?_)
      have e : fstI ws.length F = (k : Int) := by rw [fstI, find_spec hk' hf hall]
      simp (maxSteps := 2000000) only [vup, cond_true, cond_false, Zg, Zn, Nat.reduceBEq, Zr, Xo, tup, e]
    | false =>
      simp (maxSteps := 2000000) only [↓Zo, ↓vdn, vup, cond_true, cond_false, Zg, Zn, ev, Nat.reduceBEq]
      refine hB [(0, v), (1, .func (.func g) #[] cap), (4, .int .i64 0), (6, v), (7, Zd ws.length), (8, Zd (k : Nat))] _ _ ?_ (by simp (maxSteps := 2000000) only [vup, cond_true, cond_false, Nat.reduceBEq])
      clear hB
      try clear B
      refine Zj ?_
      simp (maxSteps := 2000000) only [↓Za, ↓Zb, ↓Zc, vup, cond_true, cond_false, aop, ev, sput, Zf, Zz, Ya, Nat.reduceBEq, add1 (show k < 9223372036854775807 by omega)]
      refine hQ2 _ _ _ ⟨k + 1, ⟨hk', fun i hi => ?_⟩, by omega, by simp (maxSteps := 2000000) only [vup, cond_true, cond_false, Nat.reduceBEq], rfl⟩
      rcases Nat.lt_or_ge i k with h1 | h1
      · exact hall i h1
      · rw [show i = k by omega]; exact hf
  · obtain rfl : k = ws.length := by omega
    refine Ze fun N7 hN7 => ?_
    simp (maxSteps := 2000000) only [↓Za, ↓Zb, ↓Zc, vup, cond_true, cond_false, aop, Zg, ev, sput, Zf, Zz, Ya, Nat.reduceBEq, hin]
    refine hN7 [(0, v), (1, .func (.func g) #[] cap), (4, .int .i64 0), (6, v), (7, Zd ws.length), (8, Zd ws.length), (9, .bool false)] _ _ ?_ (by simp (maxSteps := 2000000) only [vup, cond_true, cond_false, Nat.reduceBEq])
    clear hN7
    try clear N7
    refine Ze fun N8 hN8 => ?_
    simp (maxSteps := 2000000) only [↓Yn, ↓vdn, vup, cond_true, cond_false, Zg, ev, Nat.reduceBEq]
    refine hQ2 _ _ _ (hQ _ _ _ ?_)
    simp (maxSteps := 2000000) only [Zg, Zn, Zr, if_true]
    refine hZ [(0, v), (1, .func (.func g) #[] cap), (4, .int .i64 0), (6, v), (7, Zd ws.length), (8, Zd ws.length), (9, .bool false)] _ _ ?_ (by simp (maxSteps := 2000000) only [vup, cond_true, cond_false, Nat.reduceBEq])
    clear hZ
    try clear Z
    refine Zj ?_
    have e : fstI ws.length F = -1 := by rw [fstI, find_none hall]
    simp (maxSteps := 2000000) only [↓Za, ↓Zs, ↓Zx, ↓Zb, ↓Zc, vup, cond_true, cond_false, aop, Zg, ev, sput, Zf, Nat.reduceBEq, Zr, Xo, tup, e]

theorem s112_callW [Tabs Try.prog] {args : List Value} {h : Zh} {Q : Value → Zh → Prop} (hsz : args.length ≤ 10) (hk : AWS Try.prog 10 s112 (Zr Try.prog [.tmp 3] Q) (Zt 0 args) h) : ACall Try.prog 112 args h Q :=
  Ym Try.func112 rfl (enters_of Try.func112 (by kernel_rfl) rfl) rfl rfl (by decide) s112_strip s112_ok hsz hk
theorem nonzero_call [Tabs prog] {h : Zh} {B m k b a i : Nat} {w : Nat → Value} {bk : Nat → Nat} {T : Ww} (M : Mat h B m k w bk T) (hb : h[b]? = some (.cells [Zd (a : Nat)] 3 false)) (hi : i < m) (ha : a ≤ k) :
    Yv prog 112 [w i, .pointer (some ⟨b, 0, none⟩)] h (.bool (decide (T i a ≠ 0))) := by
  refine s112_callW (by simp) ?_
  refine Zj ?_
  have e : (((T i a).num) != 0) = decide (T i a ≠ 0) := by
    rw [Bool.eq_iff_iff]
    simp [Rat.num_eq_zero]
  simp (maxSteps := 2000000) only [s112, ↓Za, ↓Zs, ↓Zx, ↓Zb, ↓Zc, vup, cond_true, cond_false, aop, Zg, Zt, ev, sput, Zf, Zz, Ya, Nat.reduceBEq, Nat.reduceAdd, Zr, Xo, tup, tyf, load1 hb Xl, M.idxR hi ha, fA0o, M.loadN hi ha, e]
end Go.Proofs.Try.Am

/-
  bets: parts as numbers; a slice of parts; the program's checks of chances; the chance of an event.
  bets: the program's forecasts: checks over all elements, the chance of an event.
  bets: forecasts, in the program and in the reference.
  bets: the program's race, stakings.
  bets: stakings.
-/
import Derived.Test.YtcmindinomacbaaPk7
import Derived.Test.YtcmindinomacbaaPk6
import Derived.Test.YtcmindinomacbaaPk5
set_option linter.all false
namespace Go.Proofs.Try.Am
open Go.Am Bq
set_option maxRecDepth 100000
set_option maxHeartbeats 1000000

/-- The chance of an event, of the first worlds. -/
def inEv (f : Nat → Rat) (evt : Nat) (w : Nat) : Rat := if evt.testBit w then f w else 0
theorem partTo_rp {ps : List (Int × Int)} (c : Chn ps) (evt : Nat) : ∀ k, k ≤ ps.length → Rp (Xt ps) (Xs (Xt ps) ps evt k) (Xo (inEv (fq ps) evt) k)
  | 0, _ => ⟨Nat.pos_of_ne_zero c.m, by simp [Xo, Xs]⟩
  | k + 1, hk => by
    have ih := partTo_rp c evt k (by omega)
    obtain ⟨r, _⟩ := c.rp (Wa (show k < ps.length by omega))
    rw [Xs, Xo, inEv]
    split
    · have := ih.plus r 1
      have e : (((1 : Int)) : Rat) = 1 := rfl
      rw [e, Rat.one_mul, Int.one_mul] at this
      exact this
    · rw [Rat.add_zero, Int.add_zero]; exact ih

theorem litI1 [Tabs prog] {h : Yc} {x : Int} (K : Value → Yc → Prop) : Yt prog h 38 1 [(0, Zx x)] K = K (.slice (some ⟨h.length, 0, none⟩) 1 1) (h ++ [.ints [x] 3 false]) := by
  simp only [Yt, el_38, zero_3, Vl, reps, fillL, mkb, Xh, Ww, cellsOf, List.length_singleton, Nat.mul_one, Nat.zero_mul, Nat.zero_add]
  exact propext ⟨fun h => h.2.2.2, fun h => ⟨trivial, by decide, by decide, h⟩⟩

theorem take_snoc {α : Type} {l : List α} {k : Nat} {d : α} (hk : k < l.length) : l.take (k + 1) = l.take k ++ [l.getD k d] := by
  rw [List.take_succ, List.getElem?_eq_getElem hk, List.getD, List.getElem?_eq_getElem hk]; rfl

theorem s75_callW [Tabs Try.prog] {args : List Value} {h : Yc} {Q : Value → Yc → Prop} (hsz : args.length ≤ 31) (hk : AWS Try.prog 31 s75 (Zu Try.prog [.tmp 2] Q) (Zp 0 args) h) : ACall Try.prog 75 args h Q :=
  Yv Try.func75 rfl (enters_of Try.func75 (by kernel_rfl) rfl) rfl rfl (by decide) s75_strip s75_ok hsz hk
theorem common_call [Tabs prog] {h : Yc} {v : Value} {ps : List (Int × Int)} (hv : PairSl h v ps) (hl : ps.length < 9223372036854775808) (hx : InR ps) : Xi prog 75 [v] h (.bool (decide (Xt ps ≠ 0) && ps.all fun p => decide (p.1 ≤ p.2))) := by
  refine ACall.forget (Low.bool _) ?_
  refine s75_callW (by simp) ?_
  simp only [s75]
  refine Zy fun N10 hN10 => ?_
  simp (maxSteps := 2000000) only [s75, ↓Za, ↓Zk, ↓Zr, ↓Ze, ↓Zj, ↓Zs, ↓Zg, ↓Zi, ↓Zf, ↓Zc, ↓Zb, ↓vdn, vup, Zl, Zh, Zm, Zo, Zn, List.map_cons, List.map_nil, cond_true, cond_false, aop, Zv, Zq, Zp, ev, sput, Zt, Zz, Yb, unK, Zd, Zw, Nat.reduceBEq, Nat.reduceAdd, Int.reduceBEq, Int.reduceBNe, Int.reduceLT, Zu, Ya, tup, tyf]
  refine hN10 [(0, v), (2, .bool false)] _ _ ?_ (by simp (maxSteps := 2000000) only [↓Za, ↓Zk, ↓Zr, ↓Ze, ↓Zj, ↓Zs, ↓Zg, ↓Zi, ↓Zf, ↓Zc, ↓Zb, ↓vdn, vup, Zl, Zh, Zm, Zo, Zn, List.map_cons, List.map_nil, cond_true, cond_false, aop, Zv, Zq, Zp, ev, sput, Zt, Zz, Yb, unK, Zd, Zw, Nat.reduceBEq, Nat.reduceAdd, Int.reduceBEq, Int.reduceBNe, Int.reduceLT, Zu, Ya, tup, tyf])
  clear hN10
  try clear N10
  refine Zy fun N11 hN11 => ?_
  simp (maxSteps := 2000000) only [s75, ↓Za, ↓Zk, ↓Zr, ↓Ze, ↓Zj, ↓Zs, ↓Zg, ↓Zi, ↓Zf, ↓Zc, ↓Zb, ↓vdn, vup, Zl, Zh, Zm, Zo, Zn, List.map_cons, List.map_nil, cond_true, cond_false, aop, Zv, Zq, Zp, ev, sput, Zt, Zz, Yb, unK, Zd, Zw, Nat.reduceBEq, Nat.reduceAdd, Int.reduceBEq, Int.reduceBNe, Int.reduceLT, Zu, Ya, tup, tyf]
  refine hN11 [(0, v), (2, .bool false), (3, .int .i64 1)] _ _ ?_ (by simp (maxSteps := 2000000) only [↓Za, ↓Zk, ↓Zr, ↓Ze, ↓Zj, ↓Zs, ↓Zg, ↓Zi, ↓Zf, ↓Zc, ↓Zb, ↓vdn, vup, Zl, Zh, Zm, Zo, Zn, List.map_cons, List.map_nil, cond_true, cond_false, aop, Zv, Zq, Zp, ev, sput, Zt, Zz, Yb, unK, Zd, Zw, Nat.reduceBEq, Nat.reduceAdd, Int.reduceBEq, Int.reduceBNe, Int.reduceLT, Zu, Ya, tup, tyf])
  clear hN11
  try clear N11
  refine Ye fun M hM => ?_
  refine Zy fun N12 hN12 => ?_
  simp (maxSteps := 2000000) only [s75, ↓Za, ↓Zk, ↓Zr, ↓Ze, ↓Zj, ↓Zs, ↓Zg, ↓Zi, ↓Zf, ↓Zc, ↓Zb, ↓vdn, vup, Zl, Zh, Zm, Zo, Zn, List.map_cons, List.map_nil, cond_true, cond_false, aop, Zv, Zq, Zp, ev, sput, Zt, Zz, Yb, unK, Zd, Zw, Nat.reduceBEq, Nat.reduceAdd, Int.reduceBEq, Int.reduceBNe, Int.reduceLT, Zu, Ya, tup, tyf, hv.len]
  refine hN12 [(0, v), (2, .bool false), (3, .int .i64 1), (7, v), (8, Zx ps.length), (9, .int .i64 0)] _ _ ?_ (by simp (maxSteps := 2000000) only [↓Za, ↓Zk, ↓Zr, ↓Ze, ↓Zj, ↓Zs, ↓Zg, ↓Zi, ↓Zf, ↓Zc, ↓Zb, ↓vdn, vup, Zl, Zh, Zm, Zo, Zn, List.map_cons, List.map_nil, cond_true, cond_false, aop, Zv, Zq, Zp, ev, sput, Zt, Zz, Yb, unK, Zd, Zw, Nat.reduceBEq, Nat.reduceAdd, Int.reduceBEq, Int.reduceBNe, Int.reduceLT, Zu, Ya, tup, tyf])
  clear hN12
  try clear N12
  refine Yf ?_
  refine Yh fun Q hQ => ?_
  refine Yz (γ := Nat × Nat × Yc) (fun s => s.1 ≤ ps.length ∧ 0 < s.2.1 ∧ s.2.1 ≤ 10000000000 ∧ mulTo (ps.drop s.1) s.2.1 = Xt ps ∧ (∀ p ∈ ps.take s.1, p.1 ≤ p.2) ∧ Ext (fun _ => False) h s.2.2)
    (fun s => ([(0, v), (2, .bool false), (3, Zx (s.2.1 : Nat)), (7, v), (8, Zx ps.length), (9, Zx (s.1 : Nat))], s.2.2)) (fun s => ps.length - s.1) (0, 1, h) ⟨Nat.zero_le _, Nat.one_pos, (by decide : (1 : Nat) ≤ 10000000000), rfl, by simp, Ext.refl _ _⟩ (by simp (maxSteps := 2000000) only [↓Za, ↓Zk, ↓Zr, ↓Ze, ↓Zj, ↓Zs, ↓Zg, ↓Zi, ↓Zf, ↓Zc, ↓Zb, ↓vdn, vup, Zl, Zh, Zm, Zo, Zn, List.map_cons, List.map_nil, cond_true, cond_false, aop, Zv, Zq, Zp, ev, sput, Zt, Zz, Yb, unK, Zd, Zw, Nat.reduceBEq, Nat.reduceAdd, Int.reduceBEq, Int.reduceBNe, Int.reduceLT, Zu, Ya, tup, tyf, Int.natCast_zero, Int.natCast_one]) rfl ?_
  rintro ⟨k, m, hp⟩ ⟨hk, hm0, hm, hmul, hall, hE⟩
  simp only at hk hm0 hm hmul hall hE
  refine Yh fun Q2 hQ2 => ?_
  simp only [l75_0]
  by_cases hin : (k : Int) < ps.length
  · have hk' : k < ps.length := by omega
    have hvp := hv.ext hE
    obtain ⟨⟨x, y⟩, hxy⟩ : ∃ p, ps.getD k (0, 0) = p := ⟨_, rfl⟩
    have hmem : (x, y) ∈ ps := hxy ▸ Wa hk'
    have hr := hx _ hmem
    simp only at hr
    have hdr := drop_getD hk'
    rw [hxy] at hdr
    rw [hdr] at hmul
    obtain ⟨H, hH⟩ : ∃ H, H = hp ++ [fC x y] := ⟨_, rfl⟩
    have c5 : H[hp.length]? = some (fC x y) := by rw [hH]; exact Yl _ _
    have hEH : Ext (fun _ => False) h H := by rw [hH]; exact hE.trans (Ext.app _ _ _)
    refine Zy fun N13 hN13 => ?_
    simp (maxSteps := 2000000) only [s75, ↓Za, ↓Zk, ↓Zr, ↓Ze, ↓Zj, ↓Zs, ↓Zg, ↓Zi, ↓Zf, ↓Zc, ↓Zb, ↓vdn, vup, Zl, Zh, Zm, Zo, Zn, List.map_cons, List.map_nil, cond_true, cond_false, aop, Zv, Zq, Zp, ev, sput, Zt, Zz, Yb, unK, Zd, Zw, Nat.reduceBEq, Nat.reduceAdd, Int.reduceBEq, Int.reduceBNe, Int.reduceLT, Zu, Ya, tup, tyf, hin]
    refine hN13 [(0, v), (2, .bool false), (3, Zx (m : Nat)), (7, v), (8, Zx ps.length), (9, Zx (k : Nat)), (10, .bool true)] _ _ ?_ (by simp (maxSteps := 2000000) only [↓Za, ↓Zk, ↓Zr, ↓Ze, ↓Zj, ↓Zs, ↓Zg, ↓Zi, ↓Zf, ↓Zc, ↓Zb, ↓vdn, vup, Zl, Zh, Zm, Zo, Zn, List.map_cons, List.map_nil, cond_true, cond_false, aop, Zv, Zq, Zp, ev, sput, Zt, Zz, Yb, unK, Zd, Zw, Nat.reduceBEq, Nat.reduceAdd, Int.reduceBEq, Int.reduceBNe, Int.reduceLT, Zu, Ya, tup, tyf])
    clear hN13
    try clear N13
    refine Zy fun N14 hN14 => ?_
    simp (maxSteps := 2000000) only [s75, ↓Za, ↓Zk, ↓Zr, ↓Ze, ↓Zj, ↓Zs, ↓Zg, ↓Zi, ↓Zf, ↓Zc, ↓Zb, ↓vdn, vup, Zl, Zh, Zm, Zo, Zn, List.map_cons, List.map_nil, cond_true, cond_false, aop, Zv, Zq, Zp, ev, sput, Zt, Zz, Yb, unK, Zd, Zw, Nat.reduceBEq, Nat.reduceAdd, Int.reduceBEq, Int.reduceBNe, Int.reduceLT, Zu, Ya, tup, tyf]
    refine hN14 [(0, v), (2, .bool false), (3, Zx (m : Nat)), (7, v), (8, Zx ps.length), (9, Zx (k : Nat))] _ _ ?_ (by simp (maxSteps := 2000000) only [↓Za, ↓Zk, ↓Zr, ↓Ze, ↓Zj, ↓Zs, ↓Zg, ↓Zi, ↓Zf, ↓Zc, ↓Zb, ↓vdn, vup, Zl, Zh, Zm, Zo, Zn, List.map_cons, List.map_nil, cond_true, cond_false, aop, Zv, Zq, Zp, ev, sput, Zt, Zz, Yb, unK, Zd, Zw, Nat.reduceBEq, Nat.reduceAdd, Int.reduceBEq, Int.reduceBNe, Int.reduceLT, Zu, Ya, tup, tyf])
    clear hN14
    try clear N14
    refine Ye fun B hB => ?_
    refine Yf ?_
    refine Zy fun N15 hN15 => ?_
    simp (maxSteps := 2000000) only [s75, ↓Za, ↓Zk, ↓Zr, ↓Ze, ↓Zj, ↓Zs, ↓Zg, ↓Zi, ↓Zf, ↓Zc, ↓Zb, ↓vdn, vup, Zl, Zh, Zm, Zo, Zn, List.map_cons, List.map_nil, cond_true, cond_false, aop, Zv, Zq, Zp, ev, sput, Zt, Zz, Yb, unK, Zd, Zw, Nat.reduceBEq, Nat.reduceAdd, Int.reduceBEq, Int.reduceBNe, Int.reduceLT, Zu, Ya, tup, tyf, hvp.idx el_47 Wh hk', hvp.load Vh hk', hxy, Xq, Xb, Xp, Wi (Yl hp z0) rfl, Wj]
    rw [← hH]
    refine hN15 [(0, v), (2, .bool false), (3, Zx (m : Nat)), (5, .pointer (some ⟨hp.length, 0, none⟩)), (7, v), (8, Zx ps.length), (9, Zx (k : Nat))] _ _ ?_ (by simp (maxSteps := 2000000) only [↓Za, ↓Zk, ↓Zr, ↓Ze, ↓Zj, ↓Zs, ↓Zg, ↓Zi, ↓Zf, ↓Zc, ↓Zb, ↓vdn, vup, Zl, Zh, Zm, Zo, Zn, List.map_cons, List.map_nil, cond_true, cond_false, aop, Zv, Zq, Zp, ev, sput, Zt, Zz, Yb, unK, Zd, Zw, Nat.reduceBEq, Nat.reduceAdd, Int.reduceBEq, Int.reduceBNe, Int.reduceLT, Zu, Ya, tup, tyf])
    clear hN15
    try clear N15
    have none0 : (decide (Xt ps ≠ 0) && ps.all fun p => decide (p.1 ≤ p.2)) = false → ∀ e, sget e 2 = .bool false → Q2 .ret e H := by
      intro h0 e he
      refine hQ2 _ _ _ (hQ _ _ _ ?_)
      simp (maxSteps := 2000000) only [s75, ↓Za, ↓Zk, ↓Zr, ↓Ze, ↓Zj, ↓Zs, ↓Zg, ↓Zi, ↓Zf, ↓Zc, ↓Zb, ↓vdn, vup, Zl, Zh, Zm, Zo, Zn, List.map_cons, List.map_nil, cond_true, cond_false, aop, Zv, Zq, Zp, ev, sput, Zt, Zz, Yb, unK, Zd, Zw, Nat.reduceBEq, Nat.reduceAdd, Int.reduceBEq, Int.reduceBNe, Int.reduceLT, Zu, Ya, tup, tyf, he]
      rw [h0]
      exact ⟨rfl, hEH⟩
    have cc : Xi prog 107 [.agg #[Zx x, Zx y], .int .i64 10000000000] H (.bool (chB 10000000000 (x, y))) := chance_call (by decide)
    refine Ye fun C hC => ?_
    refine Zy fun N16 hN16 => ?_
    simp (maxSteps := 2000000) only [s75, ↓Za, ↓Zk, ↓Zr, ↓Ze, ↓Zj, ↓Zs, ↓Zg, ↓Zi, ↓Zf, ↓Zc, ↓Zb, ↓vdn, vup, Zl, Zh, Zm, Zo, Zn, List.map_cons, List.map_nil, cond_true, cond_false, aop, Zv, Zq, Zp, ev, sput, Zt, Zz, Yb, unK, Zd, Zw, Nat.reduceBEq, Nat.reduceAdd, Int.reduceBEq, Int.reduceBNe, Int.reduceLT, Zu, Ya, tup, tyf, Yx, List.nil_append, List.append_nil, List.toList_toArray, List.cons_append, loadF c5]
    refine (cc).mono ?_
    rintro _ H2 ⟨rfl, rfl⟩
    refine hN16 [(0, v), (2, .bool false), (3, Zx (m : Nat)), (5, .pointer (some ⟨hp.length, 0, none⟩)), (7, v), (8, Zx ps.length), (9, Zx (k : Nat)), (15, .bool (!chB 10000000000 (x, y)))] _ _ ?_ (by simp (maxSteps := 2000000) only [↓Za, ↓Zk, ↓Zr, ↓Ze, ↓Zj, ↓Zs, ↓Zg, ↓Zi, ↓Zf, ↓Zc, ↓Zb, ↓vdn, vup, Zl, Zh, Zm, Zo, Zn, List.map_cons, List.map_nil, cond_true, cond_false, aop, Zv, Zq, Zp, ev, sput, Zt, Zz, Yb, unK, Zd, Zw, Nat.reduceBEq, Nat.reduceAdd, Int.reduceBEq, Int.reduceBNe, Int.reduceLT, Zu, Ya, tup, tyf])
    clear hN16
    try clear N16
    refine Yd ?_
    cases hch : chB 10000000000 (x, y) with
    | false =>
      simp (maxSteps := 2000000) only [s75, ↓Za, ↓Zk, ↓Zr, ↓Ze, ↓Zj, ↓Zs, ↓Zg, ↓Zi, ↓Zf, ↓Zc, ↓Zb, ↓vdn, vup, Zl, Zh, Zm, Zo, Zn, List.map_cons, List.map_nil, cond_true, cond_false, aop, Zv, Zq, Zp, ev, sput, Zt, Zz, Yb, unK, Zd, Zw, Nat.reduceBEq, Nat.reduceAdd, Int.reduceBEq, Int.reduceBNe, Int.reduceLT, Zu, Ya, tup, tyf, Bool.not_false]
      refine none0 ?_ _ rfl
      rw [chB_okP] at hch
      rcases Bool.and_eq_false_iff.1 hch with h1 | h1
      · rw [← hmul, mulTo_no h1]; rfl
      · have h2 : (ps.all fun p => decide (p.1 ≤ p.2)) = false := by
          rw [List.all_eq_false]; exact ⟨_, hmem, by simpa using h1⟩
        rw [h2, Bool.and_false]
    | true =>
      simp (maxSteps := 2000000) only [s75, ↓Za, ↓Zk, ↓Zr, ↓Ze, ↓Zj, ↓Zs, ↓Zg, ↓Zi, ↓Zf, ↓Zc, ↓Zb, ↓vdn, vup, Zl, Zh, Zm, Zo, Zn, List.map_cons, List.map_nil, cond_true, cond_false, aop, Zv, Zq, Zp, ev, sput, Zt, Zz, Yb, unK, Zd, Zw, Nat.reduceBEq, Nat.reduceAdd, Int.reduceBEq, Int.reduceBNe, Int.reduceLT, Zu, Ya, tup, tyf, Bool.not_true]
      rw [chB_okP, Bool.and_eq_true] at hch
      obtain ⟨hok, hxy1⟩ := hch
      have hxy2 : x ≤ y := by simpa using hxy1
      have hok' := hok
      simp only [okP, Bool.and_eq_true, decide_eq_true_eq] at hok'
      obtain ⟨n, hn⟩ : ∃ n : Nat, y = n := ⟨y.toNat, by omega⟩
      subst hn
      have hn0 : 0 < n := by omega
      have hgp := Nat.gcd_pos_of_pos_left n hm0
      have hg0 : ¬ ((Nat.gcd m n : Nat) : Int) = 0 := by omega
      have q1 := quoD (x := n) (show n < 9223372036854775808 by omega) (Nat.gcd_dvd_right m n)
      have hd0 : 0 < n / Nat.gcd m n := Nat.div_pos (Nat.le_of_dvd hn0 (Nat.gcd_dvd_right _ _)) hgp
      have hd0' : ¬ ((n / Nat.gcd m n : Nat) : Int) = 0 := by omega
      have q2 : quoV .i64 10000000000 ((n / Nat.gcd m n : Nat) : Int) = ((10000000000 / (n / Nat.gcd m n) : Nat) : Int) := by
        generalize n / Nat.gcd m n = d
        have h5 : (10000000000 : Int).tdiv ((d : Nat) : Int) = ((10000000000 / d : Nat) : Int) := by rw [Int.tdiv_eq_ediv_of_nonneg (by omega)]; rfl
        have h6 := Nat.div_le_self 10000000000 d
        rw [quoV, h5]
        generalize 10000000000 / d = z at h6 ⊢
        exact wrap_id (by omega) (by omega)
      have el : Nat.lcm m n = m * (n / Nat.gcd m n) := by rw [Nat.lcm, Nat.mul_div_assoc _ (Nat.gcd_dvd_right _ _)]
      have hgt := lcm_gt' hm0 hn0
      have gc : Xi prog 88 [Zx (m : Nat), Zx (n : Nat)] H2 _ := gcd_call (a := (m : Int)) (b := (n : Int)) (.inl (by omega)) (by omega)
      rw [Int.natAbs_natCast, Int.natAbs_natCast] at gc
      rw [mulTo] at hmul
      refine hC [(0, v), (2, .bool false), (3, Zx (m : Nat)), (5, .pointer (some ⟨hp.length, 0, none⟩)), (7, v), (8, Zx ps.length), (9, Zx (k : Nat))] _ _ ?_ (by simp (maxSteps := 2000000) only [↓Za, ↓Zk, ↓Zr, ↓Ze, ↓Zj, ↓Zs, ↓Zg, ↓Zi, ↓Zf, ↓Zc, ↓Zb, ↓vdn, vup, Zl, Zh, Zm, Zo, Zn, List.map_cons, List.map_nil, cond_true, cond_false, aop, Zv, Zq, Zp, ev, sput, Zt, Zz, Yb, unK, Zd, Zw, Nat.reduceBEq, Nat.reduceAdd, Int.reduceBEq, Int.reduceBNe, Int.reduceLT, Zu, Ya, tup, tyf])
      clear hC
      try clear C
      refine Zy fun N17 hN17 => ?_
      simp only [q75_7]
      refine Xg [(5, 1)] (by kernel_rfl) (by kernel_rfl) (by kernel_rfl) (by kernel_rfl) ?_
      simp (maxSteps := 2000000) only [s75, ↓Za, ↓Zk, ↓Zr, ↓Ze, ↓Zj, ↓Zs, ↓Zg, ↓Zi, ↓Zf, ↓Zc, ↓Zb, ↓vdn, vup, Zl, Zh, Zm, Zo, Zn, List.map_cons, List.map_nil, cond_true, cond_false, aop, Zv, Zq, Zp, ev, sput, Zt, Zz, Yb, unK, Zd, Zw, Nat.reduceBEq, Nat.reduceAdd, Int.reduceBEq, Int.reduceBNe, Int.reduceLT, Zu, Ya, tup, tyf, fA1, Xx c5, Yx, List.nil_append, List.append_nil, List.toList_toArray, List.cons_append]
      refine ⟨_, _, gc, rfl, ?_⟩
      simp (maxSteps := 2000000) only [s75, ↓Za, ↓Zk, ↓Zr, ↓Ze, ↓Zj, ↓Zs, ↓Zg, ↓Zi, ↓Zf, ↓Zc, ↓Zb, ↓vdn, vup, Zl, Zh, Zm, Zo, Zn, List.map_cons, List.map_nil, cond_true, cond_false, aop, Zv, Zq, Zp, ev, sput, Zt, Zz, Yb, unK, Zd, Zw, Nat.reduceBEq, Nat.reduceAdd, Int.reduceBEq, Int.reduceBNe, Int.reduceLT, Zu, Ya, tup, tyf, ne_eq, hg0, not_false_eq_true, q1]
      refine hN17 [(0, v), (2, .bool false), (3, Zx (m : Nat)), (5, .pointer (some ⟨hp.length, 0, none⟩)), (6, Zx (n / Nat.gcd m n : Nat)), (7, v), (8, Zx ps.length), (9, Zx (k : Nat))] _ _ ?_ (by simp (maxSteps := 2000000) only [↓Za, ↓Zk, ↓Zr, ↓Ze, ↓Zj, ↓Zs, ↓Zg, ↓Zi, ↓Zf, ↓Zc, ↓Zb, ↓vdn, vup, Zl, Zh, Zm, Zo, Zn, List.map_cons, List.map_nil, cond_true, cond_false, aop, Zv, Zq, Zp, ev, sput, Zt, Zz, Yb, unK, Zd, Zw, Nat.reduceBEq, Nat.reduceAdd, Int.reduceBEq, Int.reduceBNe, Int.reduceLT, Zu, Ya, tup, tyf])
      clear hN17
      try clear N17
      refine Zy fun N18 hN18 => ?_
      by_cases hbig : 10000000000 < Nat.lcm m n
      · have hb2 : (m : Int) > ((10000000000 / (n / Nat.gcd m n) : Nat) : Int) := by have := hgt.2 hbig; omega
        rw [if_neg (by rw [Int.natAbs_natCast]; omega)] at hmul
        simp (maxSteps := 2000000) only [s75, ↓Za, ↓Zk, ↓Zr, ↓Ze, ↓Zj, ↓Zs, ↓Zg, ↓Zi, ↓Zf, ↓Zc, ↓Zb, ↓vdn, vup, Zl, Zh, Zm, Zo, Zn, List.map_cons, List.map_nil, cond_true, cond_false, aop, Zv, Zq, Zp, ev, sput, Zt, Zz, Yb, unK, Zd, Zw, Nat.reduceBEq, Nat.reduceAdd, Int.reduceBEq, Int.reduceBNe, Int.reduceLT, Zu, Ya, tup, tyf, ne_eq, hd0', not_false_eq_true, q2, hb2]
        exact none0 (by rw [← hmul]; rfl) _ rfl
      · have hb2 : ¬ (m : Int) > ((10000000000 / (n / Nat.gcd m n) : Nat) : Int) := by
          intro hc
          exact hbig (hgt.1 (by omega))
        rw [if_pos ⟨hok, by rw [Int.natAbs_natCast]; omega⟩, Int.natAbs_natCast] at hmul
        have m1 : mulV .i64 (m : Int) ((n / Nat.gcd m n : Nat) : Int) = ((Nat.lcm m n : Nat) : Int) := by
          rw [mulN (by rw [← Int.natCast_mul, ← el]; omega), el, Int.natCast_mul]
        simp (maxSteps := 2000000) only [s75, ↓Za, ↓Zk, ↓Zr, ↓Ze, ↓Zj, ↓Zs, ↓Zg, ↓Zi, ↓Zf, ↓Zc, ↓Zb, ↓vdn, vup, Zl, Zh, Zm, Zo, Zn, List.map_cons, List.map_nil, cond_true, cond_false, aop, Zv, Zq, Zp, ev, sput, Zt, Zz, Yb, unK, Zd, Zw, Nat.reduceBEq, Nat.reduceAdd, Int.reduceBEq, Int.reduceBNe, Int.reduceLT, Zu, Ya, tup, tyf, ne_eq, hd0', not_false_eq_true, q2, hb2]
        refine hN18 [(0, v), (2, .bool false), (3, Zx (m : Nat)), (5, .pointer (some ⟨hp.length, 0, none⟩)), (6, Zx (n / Nat.gcd m n : Nat)), (7, v), (8, Zx ps.length), (9, Zx (k : Nat))] _ _ ?_ (by simp (maxSteps := 2000000) only [↓Za, ↓Zk, ↓Zr, ↓Ze, ↓Zj, ↓Zs, ↓Zg, ↓Zi, ↓Zf, ↓Zc, ↓Zb, ↓vdn, vup, Zl, Zh, Zm, Zo, Zn, List.map_cons, List.map_nil, cond_true, cond_false, aop, Zv, Zq, Zp, ev, sput, Zt, Zz, Yb, unK, Zd, Zw, Nat.reduceBEq, Nat.reduceAdd, Int.reduceBEq, Int.reduceBNe, Int.reduceLT, Zu, Ya, tup, tyf])
        clear hN18
        try clear N18
        refine Yd ?_
        simp (maxSteps := 2000000) only [s75, ↓Za, ↓Zk, ↓Zr, ↓Ze, ↓Zj, ↓Zs, ↓Zg, ↓Zi, ↓Zf, ↓Zc, ↓Zb, ↓vdn, vup, Zl, Zh, Zm, Zo, Zn, List.map_cons, List.map_nil, cond_true, cond_false, aop, Zv, Zq, Zp, ev, sput, Zt, Zz, Yb, unK, Zd, Zw, Nat.reduceBEq, Nat.reduceAdd, Int.reduceBEq, Int.reduceBNe, Int.reduceLT, Zu, Ya, tup, tyf, m1]
        refine hB [(0, v), (2, .bool false), (3, Zx (Nat.lcm m n : Nat)), (6, Zx (n / Nat.gcd m n : Nat)), (7, v), (8, Zx ps.length), (9, Zx (k : Nat))] _ _ ?_ (by simp (maxSteps := 2000000) only [↓Za, ↓Zk, ↓Zr, ↓Ze, ↓Zj, ↓Zs, ↓Zg, ↓Zi, ↓Zf, ↓Zc, ↓Zb, ↓vdn, vup, Zl, Zh, Zm, Zo, Zn, List.map_cons, List.map_nil, cond_true, cond_false, aop, Zv, Zq, Zp, ev, sput, Zt, Zz, Yb, unK, Zd, Zw, Nat.reduceBEq, Nat.reduceAdd, Int.reduceBEq, Int.reduceBNe, Int.reduceLT, Zu, Ya, tup, tyf])
        clear hB
        try clear B
        refine Yd ?_
        simp (maxSteps := 2000000) only [s75, ↓Za, ↓Zk, ↓Zr, ↓Ze, ↓Zj, ↓Zs, ↓Zg, ↓Zi, ↓Zf, ↓Zc, ↓Zb, ↓vdn, vup, Zl, Zh, Zm, Zo, Zn, List.map_cons, List.map_nil, cond_true, cond_false, aop, Zv, Zq, Zp, ev, sput, Zt, Zz, Yb, unK, Zd, Zw, Nat.reduceBEq, Nat.reduceAdd, Int.reduceBEq, Int.reduceBNe, Int.reduceLT, Zu, Ya, tup, tyf, add1 (show k < 9223372036854775807 by omega)]
        refine hQ2 _ _ _ ⟨(k + 1, Nat.lcm m n, H2), ⟨hk', Nat.lcm_pos hm0 hn0, by simp only; omega, hmul, ?_, hEH⟩, by simp only; omega, by simp (maxSteps := 2000000) only [↓Za, ↓Zk, ↓Zr, ↓Ze, ↓Zj, ↓Zs, ↓Zg, ↓Zi, ↓Zf, ↓Zc, ↓Zb, ↓vdn, vup, Zl, Zh, Zm, Zo, Zn, List.map_cons, List.map_nil, cond_true, cond_false, aop, Zv, Zq, Zp, ev, sput, Zt, Zz, Yb, unK, Zd, Zw, Nat.reduceBEq, Nat.reduceAdd, Int.reduceBEq, Int.reduceBNe, Int.reduceLT, Zu, Ya, tup, tyf], rfl⟩
        intro p hp'
        simp only [take_snoc (d := ((0, 0) : Int × Int)) hk', hxy] at hp'
        rcases List.mem_append.1 hp' with h3 | h3
        · exact hall p h3
        · simp at h3; subst h3; simp only; omega
  · obtain rfl : k = ps.length := by omega
    rw [List.drop_length, mulTo] at hmul
    rw [List.take_length] at hall
    refine Zy fun N19 hN19 => ?_
    simp (maxSteps := 2000000) only [s75, ↓Za, ↓Zk, ↓Zr, ↓Ze, ↓Zj, ↓Zs, ↓Zg, ↓Zi, ↓Zf, ↓Zc, ↓Zb, ↓vdn, vup, Zl, Zh, Zm, Zo, Zn, List.map_cons, List.map_nil, cond_true, cond_false, aop, Zv, Zq, Zp, ev, sput, Zt, Zz, Yb, unK, Zd, Zw, Nat.reduceBEq, Nat.reduceAdd, Int.reduceBEq, Int.reduceBNe, Int.reduceLT, Zu, Ya, tup, tyf, hin]
    refine hN19 [(0, v), (2, .bool false), (3, Zx (m : Nat)), (7, v), (8, Zx ps.length), (9, Zx ps.length), (10, .bool false)] _ _ ?_ (by simp (maxSteps := 2000000) only [↓Za, ↓Zk, ↓Zr, ↓Ze, ↓Zj, ↓Zs, ↓Zg, ↓Zi, ↓Zf, ↓Zc, ↓Zb, ↓vdn, vup, Zl, Zh, Zm, Zo, Zn, List.map_cons, List.map_nil, cond_true, cond_false, aop, Zv, Zq, Zp, ev, sput, Zt, Zz, Yb, unK, Zd, Zw, Nat.reduceBEq, Nat.reduceAdd, Int.reduceBEq, Int.reduceBNe, Int.reduceLT, Zu, Ya, tup, tyf])
    clear hN19
    try clear N19
    refine Zy fun N20 hN20 => ?_
    simp (maxSteps := 2000000) only [s75, ↓Za, ↓Zk, ↓Zr, ↓Ze, ↓Zj, ↓Zs, ↓Zg, ↓Zi, ↓Zf, ↓Zc, ↓Zb, ↓vdn, vup, Zl, Zh, Zm, Zo, Zn, List.map_cons, List.map_nil, cond_true, cond_false, aop, Zv, Zq, Zp, ev, sput, Zt, Zz, Yb, unK, Zd, Zw, Nat.reduceBEq, Nat.reduceAdd, Int.reduceBEq, Int.reduceBNe, Int.reduceLT, Zu, Ya, tup, tyf]
    refine hQ2 _ _ _ (hQ _ _ _ ?_)
    simp (maxSteps := 2000000) only [s75, ↓Za, ↓Zk, ↓Zr, ↓Ze, ↓Zj, ↓Zs, ↓Zg, ↓Zi, ↓Zf, ↓Zc, ↓Zb, ↓vdn, vup, Zl, Zh, Zm, Zo, Zn, List.map_cons, List.map_nil, cond_true, cond_false, aop, Zv, Zq, Zp, ev, sput, Zt, Zz, Yb, unK, Zd, Zw, Nat.reduceBEq, Nat.reduceAdd, Int.reduceBEq, Int.reduceBNe, Int.reduceLT, Zu, Ya, tup, tyf, if_true]
    refine hM [(0, v), (2, .bool false), (3, Zx (m : Nat)), (7, v), (8, Zx ps.length), (9, Zx ps.length), (10, .bool false)] _ _ ?_ (by simp (maxSteps := 2000000) only [↓Za, ↓Zk, ↓Zr, ↓Ze, ↓Zj, ↓Zs, ↓Zg, ↓Zi, ↓Zf, ↓Zc, ↓Zb, ↓vdn, vup, Zl, Zh, Zm, Zo, Zn, List.map_cons, List.map_nil, cond_true, cond_false, aop, Zv, Zq, Zp, ev, sput, Zt, Zz, Yb, unK, Zd, Zw, Nat.reduceBEq, Nat.reduceAdd, Int.reduceBEq, Int.reduceBNe, Int.reduceLT, Zu, Ya, tup, tyf])
    clear hM
    try clear M
    refine Yd ?_
    simp (maxSteps := 2000000) only [s75, ↓Za, ↓Zk, ↓Zr, ↓Ze, ↓Zj, ↓Zs, ↓Zg, ↓Zi, ↓Zf, ↓Zc, ↓Zb, ↓vdn, vup, Zl, Zh, Zm, Zo, Zn, List.map_cons, List.map_nil, cond_true, cond_false, aop, Zv, Zq, Zp, ev, sput, Zt, Zz, Yb, unK, Zd, Zw, Nat.reduceBEq, Nat.reduceAdd, Int.reduceBEq, Int.reduceBNe, Int.reduceLT, Zu, Ya, tup, tyf]
    refine ⟨?_, hE⟩
    have h2 : (ps.all fun p => decide (p.1 ≤ p.2)) = true := by
      rw [List.all_eq_true]; exact fun p hp => by simp [hall p hp]
    rw [h2, ← hmul]
    simp; omega
end Go.Proofs.Try.Am

namespace Go.Proofs.Try.Am
open Go.Am Bq
set_option maxRecDepth 100000
set_option maxHeartbeats 1000000

/-- A fraction as a number's value. -/
theorem frV_q {p : Int × Int} (h : ofQ (toQ p) = p) : frV p.1 p.2 = qV (toQ p) := by
  conv => lhs; rw [← h]
  rfl
/-- A sum that fits. -/
theorem plus_fits [Tabs prog] {h : Yc} {a b : Rat} {k : Int} {N A B : Nat} (hN : 0 < N) (hN2 : N < 9223372036854775808) (da : a.den ∣ N) (db : b.den ∣ N) (a1 : -(A : Rat) ≤ a) (a2 : a ≤ A) (b1 : -(B : Rat) ≤ b) (b2 : b ≤ B)
    (hh : (A + k.natAbs * B) * N < 9223372036854775808) : Xi prog 71 [qV a, Zx k, qV b] h (qV (a + k * b)) := by
  obtain ⟨x, hx⟩ := rp_of hN da
  obtain ⟨y, hy⟩ := rp_of hN db
  have h1 := hx.bound a1 a2
  have h2 := hy.bound b1 b2
  refine plus_call hx hy ?_ hN2
  rw [Int.natAbs_mul]
  have h3 : k.natAbs * y.natAbs ≤ k.natAbs * (B * N) := Nat.mul_le_mul_left _ h2
  rw [Nat.add_mul, Nat.mul_assoc] at hh
  omega

section
theorem s116_callW [Tabs Try.prog] {args : List Value} {h : Yc} {Q : Value → Yc → Prop} (hsz : args.length ≤ 19) (hk : AWS Try.prog 19 s116 (Zu Try.prog [.tmp 4] Q) (Zp 0 args) h) : ACall Try.prog 116 args h Q :=
  Yv Try.func116 rfl (enters_of Try.func116 (by kernel_rfl) rfl) rfl rfl (by decide) s116_strip s116_ok hsz hk
theorem idxF_call [Tabs prog] {h : Yc} {v : Value} {ps : List (Int × Int)} {g : FuncId} {cap : Array Value} {f : Int × Int → Bool} (hv : PairSl h v ps) (hl : ps.length < 9223372036854775808)
    (hc : ∀ h', Ext (fun _ => False) h h' → ∀ p ∈ ps, Xi prog g ([frV p.1 p.2] ++ cap.toList) h' (.bool (f p))) : ACall prog 116 [v, .func (.func g) #[] cap] h fun r h' => h' = h ∧ ∃ i : Int, r = Zx i ∧ decide (0 ≤ i) = ps.any f := by
  refine s116_callW (by simp) ?_
  simp only [s116]
  refine Zy fun N1 hN1 => ?_
  simp (maxSteps := 2000000) only [s116, ↓Za, ↓Zk, ↓Zr, ↓Ze, ↓Zj, ↓Zs, ↓Zg, ↓Zi, ↓Zf, ↓Zc, ↓Zb, ↓vdn, vup, Zl, Zh, Zm, Zo, Zn, List.map_cons, List.map_nil, cond_true, cond_false, aop, Zv, Zq, Zp, ev, sput, Zt, Zz, Yb, unK, Zd, Zw, Nat.reduceBEq, Nat.reduceAdd, Int.reduceBEq, Int.reduceBNe, Int.reduceLT, Zu, Ya, tup, tyf]
  refine hN1 [(0, v), (1, .func (.func g) #[] cap), (4, .int .i64 0)] _ _ ?_ (by simp (maxSteps := 2000000) only [↓Za, ↓Zk, ↓Zr, ↓Ze, ↓Zj, ↓Zs, ↓Zg, ↓Zi, ↓Zf, ↓Zc, ↓Zb, ↓vdn, vup, Zl, Zh, Zm, Zo, Zn, List.map_cons, List.map_nil, cond_true, cond_false, aop, Zv, Zq, Zp, ev, sput, Zt, Zz, Yb, unK, Zd, Zw, Nat.reduceBEq, Nat.reduceAdd, Int.reduceBEq, Int.reduceBNe, Int.reduceLT, Zu, Ya, tup, tyf])
  clear hN1
  try clear N1
  refine Ye fun Z hZ => ?_
  refine Zy fun N2 hN2 => ?_
  simp (maxSteps := 2000000) only [s116, ↓Za, ↓Zk, ↓Zr, ↓Ze, ↓Zj, ↓Zs, ↓Zg, ↓Zi, ↓Zf, ↓Zc, ↓Zb, ↓vdn, vup, Zl, Zh, Zm, Zo, Zn, List.map_cons, List.map_nil, cond_true, cond_false, aop, Zv, Zq, Zp, ev, sput, Zt, Zz, Yb, unK, Zd, Zw, Nat.reduceBEq, Nat.reduceAdd, Int.reduceBEq, Int.reduceBNe, Int.reduceLT, Zu, Ya, tup, tyf, hv.len]
  refine hN2 [(0, v), (1, .func (.func g) #[] cap), (4, .int .i64 0), (6, v), (7, Zx ps.length), (8, .int .i64 0)] _ _ ?_ (by simp (maxSteps := 2000000) only [↓Za, ↓Zk, ↓Zr, ↓Ze, ↓Zj, ↓Zs, ↓Zg, ↓Zi, ↓Zf, ↓Zc, ↓Zb, ↓vdn, vup, Zl, Zh, Zm, Zo, Zn, List.map_cons, List.map_nil, cond_true, cond_false, aop, Zv, Zq, Zp, ev, sput, Zt, Zz, Yb, unK, Zd, Zw, Nat.reduceBEq, Nat.reduceAdd, Int.reduceBEq, Int.reduceBNe, Int.reduceLT, Zu, Ya, tup, tyf])
  clear hN2
  try clear N2
  refine Yf ?_
  refine Yh fun Q hQ => ?_
  refine Yz (γ := Nat) (fun k => k ≤ ps.length ∧ ∀ p ∈ ps.take k, f p = false)
    (fun k => ([(0, v), (1, .func (.func g) #[] cap), (4, .int .i64 0), (6, v), (7, Zx ps.length), (8, Zx (k : Nat))], h)) (fun k => ps.length - k) 0 ⟨Nat.zero_le _, by simp⟩ (by simp (maxSteps := 2000000) only [↓Za, ↓Zk, ↓Zr, ↓Ze, ↓Zj, ↓Zs, ↓Zg, ↓Zi, ↓Zf, ↓Zc, ↓Zb, ↓vdn, vup, Zl, Zh, Zm, Zo, Zn, List.map_cons, List.map_nil, cond_true, cond_false, aop, Zv, Zq, Zp, ev, sput, Zt, Zz, Yb, unK, Zd, Zw, Nat.reduceBEq, Nat.reduceAdd, Int.reduceBEq, Int.reduceBNe, Int.reduceLT, Zu, Ya, tup, tyf, Int.natCast_zero]) rfl ?_
  rintro k ⟨hk, hall⟩
  refine Yh fun Q2 hQ2 => ?_
  simp only [l116_0]
  by_cases hin : (k : Int) < ps.length
  · have hk' : k < ps.length := by omega
    obtain ⟨⟨x, y⟩, hxy⟩ : ∃ p, ps.getD k (0, 0) = p := ⟨_, rfl⟩
    have hmem : (x, y) ∈ ps := hxy ▸ Wa hk'
    refine Zy fun N3 hN3 => ?_
    simp (maxSteps := 2000000) only [s116, ↓Za, ↓Zk, ↓Zr, ↓Ze, ↓Zj, ↓Zs, ↓Zg, ↓Zi, ↓Zf, ↓Zc, ↓Zb, ↓vdn, vup, Zl, Zh, Zm, Zo, Zn, List.map_cons, List.map_nil, cond_true, cond_false, aop, Zv, Zq, Zp, ev, sput, Zt, Zz, Yb, unK, Zd, Zw, Nat.reduceBEq, Nat.reduceAdd, Int.reduceBEq, Int.reduceBNe, Int.reduceLT, Zu, Ya, tup, tyf, hin]
    refine hN3 [(0, v), (1, .func (.func g) #[] cap), (4, .int .i64 0), (6, v), (7, Zx ps.length), (8, Zx (k : Nat)), (9, .bool true)] _ _ ?_ (by simp (maxSteps := 2000000) only [↓Za, ↓Zk, ↓Zr, ↓Ze, ↓Zj, ↓Zs, ↓Zg, ↓Zi, ↓Zf, ↓Zc, ↓Zb, ↓vdn, vup, Zl, Zh, Zm, Zo, Zn, List.map_cons, List.map_nil, cond_true, cond_false, aop, Zv, Zq, Zp, ev, sput, Zt, Zz, Yb, unK, Zd, Zw, Nat.reduceBEq, Nat.reduceAdd, Int.reduceBEq, Int.reduceBNe, Int.reduceLT, Zu, Ya, tup, tyf])
    clear hN3
    try clear N3
    refine Zy fun N4 hN4 => ?_
    simp (maxSteps := 2000000) only [s116, ↓Za, ↓Zk, ↓Zr, ↓Ze, ↓Zj, ↓Zs, ↓Zg, ↓Zi, ↓Zf, ↓Zc, ↓Zb, ↓vdn, vup, Zl, Zh, Zm, Zo, Zn, List.map_cons, List.map_nil, cond_true, cond_false, aop, Zv, Zq, Zp, ev, sput, Zt, Zz, Yb, unK, Zd, Zw, Nat.reduceBEq, Nat.reduceAdd, Int.reduceBEq, Int.reduceBNe, Int.reduceLT, Zu, Ya, tup, tyf]
    refine hN4 [(0, v), (1, .func (.func g) #[] cap), (4, .int .i64 0), (6, v), (7, Zx ps.length), (8, Zx (k : Nat))] _ _ ?_ (by simp (maxSteps := 2000000) only [↓Za, ↓Zk, ↓Zr, ↓Ze, ↓Zj, ↓Zs, ↓Zg, ↓Zi, ↓Zf, ↓Zc, ↓Zb, ↓vdn, vup, Zl, Zh, Zm, Zo, Zn, List.map_cons, List.map_nil, cond_true, cond_false, aop, Zv, Zq, Zp, ev, sput, Zt, Zz, Yb, unK, Zd, Zw, Nat.reduceBEq, Nat.reduceAdd, Int.reduceBEq, Int.reduceBNe, Int.reduceLT, Zu, Ya, tup, tyf])
    clear hN4
    try clear N4
    refine Ye fun B hB => ?_
    refine Yf ?_
    refine Zy fun N5 hN5 => ?_
    simp (maxSteps := 2000000) only [s116, ↓Za, ↓Zk, ↓Zr, ↓Ze, ↓Zj, ↓Zs, ↓Zg, ↓Zi, ↓Zf, ↓Zc, ↓Zb, ↓vdn, vup, Zl, Zh, Zm, Zo, Zn, List.map_cons, List.map_nil, cond_true, cond_false, aop, Zv, Zq, Zp, ev, sput, Zt, Zz, Yb, unK, Zd, Zw, Nat.reduceBEq, Nat.reduceAdd, Int.reduceBEq, Int.reduceBNe, Int.reduceLT, Zu, Ya, tup, tyf]
    refine hN5 [(0, v), (1, .func (.func g) #[] cap), (4, .int .i64 0), (5, Zx (k : Nat)), (6, v), (7, Zx ps.length), (8, Zx (k : Nat))] _ _ ?_ (by simp (maxSteps := 2000000) only [↓Za, ↓Zk, ↓Zr, ↓Ze, ↓Zj, ↓Zs, ↓Zg, ↓Zi, ↓Zf, ↓Zc, ↓Zb, ↓vdn, vup, Zl, Zh, Zm, Zo, Zn, List.map_cons, List.map_nil, cond_true, cond_false, aop, Zv, Zq, Zp, ev, sput, Zt, Zz, Yb, unK, Zd, Zw, Nat.reduceBEq, Nat.reduceAdd, Int.reduceBEq, Int.reduceBNe, Int.reduceLT, Zu, Ya, tup, tyf])
    clear hN5
    try clear N5
    refine Zy fun N6 hN6 => ?_
    simp (maxSteps := 2000000) only [s116, ↓Za, ↓Zk, ↓Zr, ↓Ze, ↓Zj, ↓Zs, ↓Zg, ↓Zi, ↓Zf, ↓Zc, ↓Zb, ↓vdn, vup, Zl, Zh, Zm, Zo, Zn, List.map_cons, List.map_nil, cond_true, cond_false, aop, Zv, Zq, Zp, ev, sput, Zt, Zz, Yb, unK, Zd, Zw, Nat.reduceBEq, Nat.reduceAdd, Int.reduceBEq, Int.reduceBNe, Int.reduceLT, Zu, Ya, tup, tyf, hv.idx el_47 Wh hk', hv.load Vh hk', hxy, Yx, List.nil_append, List.append_nil]
    refine (show Xi prog g ([.agg #[Zx x, Zx y]] ++ cap.toList) h (.bool (f (x, y))) from hc h (Ext.refl _ _) _ hmem).mono ?_
    rintro _ h ⟨rfl, rfl⟩
    refine hN6 [(0, v), (1, .func (.func g) #[] cap), (4, .int .i64 0), (5, Zx (k : Nat)), (6, v), (7, Zx ps.length), (8, Zx (k : Nat)), (16, .bool (f (x, y)))] _ _ ?_ (by simp (maxSteps := 2000000) only [↓Za, ↓Zk, ↓Zr, ↓Ze, ↓Zj, ↓Zs, ↓Zg, ↓Zi, ↓Zf, ↓Zc, ↓Zb, ↓vdn, vup, Zl, Zh, Zm, Zo, Zn, List.map_cons, List.map_nil, cond_true, cond_false, aop, Zv, Zq, Zp, ev, sput, Zt, Zz, Yb, unK, Zd, Zw, Nat.reduceBEq, Nat.reduceAdd, Int.reduceBEq, Int.reduceBNe, Int.reduceLT, Zu, Ya, tup, tyf])
    clear hN6
    try clear N6
    refine Yd ?_
    cases hf : f (x, y) with
    | true =>
      simp (maxSteps := 2000000) only [s116, ↓Za, ↓Zk, ↓Zr, ↓Ze, ↓Zj, ↓Zs, ↓Zg, ↓Zi, ↓Zf, ↓Zc, ↓Zb, ↓vdn, vup, Zl, Zh, Zm, Zo, Zn, List.map_cons, List.map_nil, cond_true, cond_false, aop, Zv, Zq, Zp, ev, sput, Zt, Zz, Yb, unK, Zd, Zw, Nat.reduceBEq, Nat.reduceAdd, Int.reduceBEq, Int.reduceBNe, Int.reduceLT, Zu, Ya, tup, tyf]
      refine hQ2 _ _ _ (hQ _ _ _ ?_)
      simp (maxSteps := 2000000) only [s116, ↓Za, ↓Zk, ↓Zr, ↓Ze, ↓Zj, ↓Zs, ↓Zg, ↓Zi, ↓Zf, ↓Zc, ↓Zb, ↓vdn, vup, Zl, Zh, Zm, Zo, Zn, List.map_cons, List.map_nil, cond_true, cond_false, aop, Zv, Zq, Zp, ev, sput, Zt, Zz, Yb, unK, Zd, Zw, Nat.reduceBEq, Nat.reduceAdd, Int.reduceBEq, Int.reduceBNe, Int.reduceLT, Zu, Ya, tup, tyf]
      exact ⟨_, rfl, by rw [show ps.any f = true from List.any_eq_true.2 ⟨_, hmem, hf⟩]; simp⟩
    | false =>
      simp (maxSteps := 2000000) only [s116, ↓Za, ↓Zk, ↓Zr, ↓Ze, ↓Zj, ↓Zs, ↓Zg, ↓Zi, ↓Zf, ↓Zc, ↓Zb, ↓vdn, vup, Zl, Zh, Zm, Zo, Zn, List.map_cons, List.map_nil, cond_true, cond_false, aop, Zv, Zq, Zp, ev, sput, Zt, Zz, Yb, unK, Zd, Zw, Nat.reduceBEq, Nat.reduceAdd, Int.reduceBEq, Int.reduceBNe, Int.reduceLT, Zu, Ya, tup, tyf]
      refine hB [(0, v), (1, .func (.func g) #[] cap), (4, .int .i64 0), (6, v), (7, Zx ps.length), (8, Zx (k : Nat))] _ _ ?_ (by simp (maxSteps := 2000000) only [↓Za, ↓Zk, ↓Zr, ↓Ze, ↓Zj, ↓Zs, ↓Zg, ↓Zi, ↓Zf, ↓Zc, ↓Zb, ↓vdn, vup, Zl, Zh, Zm, Zo, Zn, List.map_cons, List.map_nil, cond_true, cond_false, aop, Zv, Zq, Zp, ev, sput, Zt, Zz, Yb, unK, Zd, Zw, Nat.reduceBEq, Nat.reduceAdd, Int.reduceBEq, Int.reduceBNe, Int.reduceLT, Zu, Ya, tup, tyf])
      clear hB
      try clear B
      refine Yd ?_
      simp (maxSteps := 2000000) only [s116, ↓Za, ↓Zk, ↓Zr, ↓Ze, ↓Zj, ↓Zs, ↓Zg, ↓Zi, ↓Zf, ↓Zc, ↓Zb, ↓vdn, vup, Zl, Zh, Zm, Zo, Zn, List.map_cons, List.map_nil, cond_true, cond_false, aop, Zv, Zq, Zp, ev, sput, Zt, Zz, Yb, unK, Zd, Zw, Nat.reduceBEq, Nat.reduceAdd, Int.reduceBEq, Int.reduceBNe, Int.reduceLT, Zu, Ya, tup, tyf, add1 (show k < 9223372036854775807 by omega)]
      refine hQ2 _ _ _ ⟨k + 1, ⟨hk', fun p hp => ?_⟩, by omega, by simp (maxSteps := 2000000) only [↓Za, ↓Zk, ↓Zr, ↓Ze, ↓Zj, ↓Zs, ↓Zg, ↓Zi, ↓Zf, ↓Zc, ↓Zb, ↓vdn, vup, Zl, Zh, Zm, Zo, Zn, List.map_cons, List.map_nil, cond_true, cond_false, aop, Zv, Zq, Zp, ev, sput, Zt, Zz, Yb, unK, Zd, Zw, Nat.reduceBEq, Nat.reduceAdd, Int.reduceBEq, Int.reduceBNe, Int.reduceLT, Zu, Ya, tup, tyf], rfl⟩
      rw [take_snoc (d := ((0, 0) : Int × Int)) hk', hxy] at hp
      rcases List.mem_append.1 hp with h3 | h3
      · exact hall p h3
      · simp at h3; subst h3; exact hf
  · obtain rfl : k = ps.length := by omega
    refine Zy fun N7 hN7 => ?_
    simp (maxSteps := 2000000) only [s116, ↓Za, ↓Zk, ↓Zr, ↓Ze, ↓Zj, ↓Zs, ↓Zg, ↓Zi, ↓Zf, ↓Zc, ↓Zb, ↓vdn, vup, Zl, Zh, Zm, Zo, Zn, List.map_cons, List.map_nil, cond_true, cond_false, aop, Zv, Zq, Zp, ev, sput, Zt, Zz, Yb, unK, Zd, Zw, Nat.reduceBEq, Nat.reduceAdd, Int.reduceBEq, Int.reduceBNe, Int.reduceLT, Zu, Ya, tup, tyf, hin]
    refine hN7 [(0, v), (1, .func (.func g) #[] cap), (4, .int .i64 0), (6, v), (7, Zx ps.length), (8, Zx ps.length), (9, .bool false)] _ _ ?_ (by simp (maxSteps := 2000000) only [↓Za, ↓Zk, ↓Zr, ↓Ze, ↓Zj, ↓Zs, ↓Zg, ↓Zi, ↓Zf, ↓Zc, ↓Zb, ↓vdn, vup, Zl, Zh, Zm, Zo, Zn, List.map_cons, List.map_nil, cond_true, cond_false, aop, Zv, Zq, Zp, ev, sput, Zt, Zz, Yb, unK, Zd, Zw, Nat.reduceBEq, Nat.reduceAdd, Int.reduceBEq, Int.reduceBNe, Int.reduceLT, Zu, Ya, tup, tyf])
    clear hN7
    try clear N7
    refine Zy fun N8 hN8 => ?_
    simp (maxSteps := 2000000) only [s116, ↓Za, ↓Zk, ↓Zr, ↓Ze, ↓Zj, ↓Zs, ↓Zg, ↓Zi, ↓Zf, ↓Zc, ↓Zb, ↓vdn, vup, Zl, Zh, Zm, Zo, Zn, List.map_cons, List.map_nil, cond_true, cond_false, aop, Zv, Zq, Zp, ev, sput, Zt, Zz, Yb, unK, Zd, Zw, Nat.reduceBEq, Nat.reduceAdd, Int.reduceBEq, Int.reduceBNe, Int.reduceLT, Zu, Ya, tup, tyf]
    refine hQ2 _ _ _ (hQ _ _ _ ?_)
    simp (maxSteps := 2000000) only [s116, ↓Za, ↓Zk, ↓Zr, ↓Ze, ↓Zj, ↓Zs, ↓Zg, ↓Zi, ↓Zf, ↓Zc, ↓Zb, ↓vdn, vup, Zl, Zh, Zm, Zo, Zn, List.map_cons, List.map_nil, cond_true, cond_false, aop, Zv, Zq, Zp, ev, sput, Zt, Zz, Yb, unK, Zd, Zw, Nat.reduceBEq, Nat.reduceAdd, Int.reduceBEq, Int.reduceBNe, Int.reduceLT, Zu, Ya, tup, tyf, if_true]
    refine hZ [(0, v), (1, .func (.func g) #[] cap), (4, .int .i64 0), (6, v), (7, Zx ps.length), (8, Zx ps.length), (9, .bool false)] _ _ ?_ (by simp (maxSteps := 2000000) only [↓Za, ↓Zk, ↓Zr, ↓Ze, ↓Zj, ↓Zs, ↓Zg, ↓Zi, ↓Zf, ↓Zc, ↓Zb, ↓vdn, vup, Zl, Zh, Zm, Zo, Zn, List.map_cons, List.map_nil, cond_true, cond_false, aop, Zv, Zq, Zp, ev, sput, Zt, Zz, Yb, unK, Zd, Zw, Nat.reduceBEq, Nat.reduceAdd, Int.reduceBEq, Int.reduceBNe, Int.reduceLT, Zu, Ya, tup, tyf])
    clear hZ
    try clear Z
    refine Yd ?_
    simp (maxSteps := 2000000) only [s116, ↓Za, ↓Zk, ↓Zr, ↓Ze, ↓Zj, ↓Zs, ↓Zg, ↓Zi, ↓Zf, ↓Zc, ↓Zb, ↓vdn, vup, Zl, Zh, Zm, Zo, Zn, List.map_cons, List.map_nil, cond_true, cond_false, aop, Zv, Zq, Zp, ev, sput, Zt, Zz, Yb, unK, Zd, Zw, Nat.reduceBEq, Nat.reduceAdd, Int.reduceBEq, Int.reduceBNe, Int.reduceLT, Zu, Ya, tup, tyf]
    rw [List.take_length] at hall
    exact ⟨_, rfl, by rw [show ps.any f = false from List.any_eq_false.2 fun p hp => by simp [hall p hp]]; decide⟩
end

theorem s101_callW [Tabs Try.prog] {args : List Value} {h : Yc} {Q : Value → Yc → Prop} (hsz : args.length ≤ 9) (hk : AWS Try.prog 9 s101 (Zu Try.prog [.tmp 4] Q) (Zp 0 args) h) : ACall Try.prog 101 args h Q :=
  Yv Try.func101 rfl (enters_of Try.func101 (by kernel_rfl) rfl) rfl rfl (by decide) s101_strip s101_ok hsz hk
theorem hasF_call [Tabs prog] {h : Yc} {v : Value} {ps : List (Int × Int)} {g : FuncId} {cap : Array Value} {f : Int × Int → Bool} (hv : PairSl h v ps) (hl : ps.length < 9223372036854775808)
    (hc : ∀ h', Ext (fun _ => False) h h' → ∀ p ∈ ps, Xi prog g ([frV p.1 p.2] ++ cap.toList) h' (.bool (f p))) : Xi prog 101 [v, .func (.func g) #[] cap] h (.bool (ps.any f)) := by
  refine s101_callW (by simp) ?_
  refine Yd ?_
  simp (maxSteps := 2000000) only [s101, ↓Za, ↓Zk, ↓Zr, ↓Ze, ↓Zj, ↓Zs, ↓Zg, ↓Zi, ↓Zf, ↓Zc, ↓Zb, ↓vdn, vup, Zl, Zh, Zm, Zo, Zn, List.map_cons, List.map_nil, cond_true, cond_false, aop, Zv, Zq, Zp, ev, sput, Zt, Zz, Yb, unK, Zd, Zw, Nat.reduceBEq, Nat.reduceAdd, Int.reduceBEq, Int.reduceBNe, Int.reduceLT, Zu, Ya, tup, tyf, Yx, List.nil_append, List.append_nil, List.toList_toArray, List.cons_append]
  refine (idxF_call hv hl hc).mono ?_
  rintro _ h1 ⟨rfl, i, rfl, hi⟩
  simp (maxSteps := 2000000) only [s101, ↓Za, ↓Zk, ↓Zr, ↓Ze, ↓Zj, ↓Zs, ↓Zg, ↓Zi, ↓Zf, ↓Zc, ↓Zb, ↓vdn, vup, Zl, Zh, Zm, Zo, Zn, List.map_cons, List.map_nil, cond_true, cond_false, aop, Zv, Zq, Zp, ev, sput, Zt, Zz, Yb, unK, Zd, Zw, Nat.reduceBEq, Nat.reduceAdd, Int.reduceBEq, Int.reduceBNe, Int.reduceLT, Zu, Ya, tup, tyf, ge_iff_le, hi]

theorem s61_callW [Tabs Try.prog] {args : List Value} {h : Yc} {Q : Value → Yc → Prop} (hsz : args.length ≤ 26) (hk : AWS Try.prog 26 s61 (Zu Try.prog [.cell 4 26] Q) (Zp 0 args) h) : ACall Try.prog 61 args h Q :=
  Yv Try.func61 rfl (enters_of Try.func61 (by kernel_rfl) rfl) rfl rfl (by decide) s61_strip s61_ok hsz hk
theorem of_call [Tabs prog] {h : Yc} {v : Value} {evt N : Nat} {ps : List (Int × Int)} (hv : PairSl h v ps) (hl : ps.length ≤ 100) (hvl : Vld ps) (hev : evt < 9223372036854775808) (hN : 0 < N) (hN2 : N ≤ 10000000000000)
    (hq : ∀ k, k < ps.length → 0 ≤ fq ps k ∧ fq ps k ≤ 1 ∧ (fq ps k).den ∣ N) : Xi prog 61 [v, Zx (evt : Nat)] h (qV (Xo (inEv (fq ps) evt) ps.length)) := by
  have hq2 : ∀ k, k < ps.length → 0 ≤ inEv (fq ps) evt k ∧ inEv (fq ps) evt k ≤ 1 ∧ (inEv (fq ps) evt k).den ∣ N := fun k hk => by
    rw [inEv]; split
    · exact hq k hk
    · exact ⟨Rat.le_refl, by decide, Nat.one_dvd _⟩
  have hs : ∀ k, k ≤ ps.length → 0 ≤ Xo (inEv (fq ps) evt) k ∧ Xo (inEv (fq ps) evt) k ≤ (100 : Nat) ∧ (Xo (inEv (fq ps) evt) k).den ∣ N := fun k hk => by
    refine ⟨sumTo_nonneg fun i hi => (hq2 i (by omega)).1, ?_, sumTo_den hN fun i hi => (hq2 i (by omega)).2.2⟩
    have : ∀ j, j ≤ k → Xo (inEv (fq ps) evt) j ≤ (j : Nat) := by
      intro j
      induction j with
      | zero => intro _; exact Rat.le_refl
      | succ j ih =>
        intro hj
        have h1 := ih (by omega)
        have h2 := (hq2 j (by omega)).2.1
        rw [Xo]; push_cast; grind
    refine Rat.le_trans (this k (Nat.le_refl _)) ?_
    exact_mod_cast (show k ≤ 100 by omega)
  refine ACall.forget (low_frV _ _) ?_
  refine s61_callW (by simp) ?_
  simp only [s61]
  refine Zy fun N9 hN9 => ?_
  simp (maxSteps := 2000000) only [s61, ↓Za, ↓Zk, ↓Zr, ↓Ze, ↓Zj, ↓Zs, ↓Zg, ↓Zi, ↓Zf, ↓Zc, ↓Zb, ↓vdn, vup, Zl, Zh, Zm, Zo, Zn, List.map_cons, List.map_nil, cond_true, cond_false, aop, Zv, Zq, Zp, ev, sput, Zt, Zz, Yb, unK, Zd, Zw, Nat.reduceBEq, Nat.reduceAdd, Int.reduceBEq, Int.reduceBNe, Int.reduceLT, Zu, Ya, tup, tyf, Xq, Xb, Xp]
  refine hN9 [(0, v), (1, Zx (evt : Nat)), (4, .pointer (some ⟨h.length, 0, none⟩))] _ _ ?_ (by simp (maxSteps := 2000000) only [↓Za, ↓Zk, ↓Zr, ↓Ze, ↓Zj, ↓Zs, ↓Zg, ↓Zi, ↓Zf, ↓Zc, ↓Zb, ↓vdn, vup, Zl, Zh, Zm, Zo, Zn, List.map_cons, List.map_nil, cond_true, cond_false, aop, Zv, Zq, Zp, ev, sput, Zt, Zz, Yb, unK, Zd, Zw, Nat.reduceBEq, Nat.reduceAdd, Int.reduceBEq, Int.reduceBNe, Int.reduceLT, Zu, Ya, tup, tyf])
  clear hN9
  try clear N9
  refine Zy fun N10 hN10 => ?_
  simp (maxSteps := 2000000) only [s61, ↓Za, ↓Zk, ↓Zr, ↓Ze, ↓Zj, ↓Zs, ↓Zg, ↓Zi, ↓Zf, ↓Zc, ↓Zb, ↓vdn, vup, Zl, Zh, Zm, Zo, Zn, List.map_cons, List.map_nil, cond_true, cond_false, aop, Zv, Zq, Zp, ev, sput, Zt, Zz, Yb, unK, Zd, Zw, Nat.reduceBEq, Nat.reduceAdd, Int.reduceBEq, Int.reduceBNe, Int.reduceLT, Zu, Ya, tup, tyf, Yx, List.nil_append, List.append_nil, List.toList_toArray, List.cons_append]
  refine ((show Xi prog 70 [.int .i64 0] (h ++ [z0]) (qV ((0 : Int) : Rat)) from whole_call)).mono ?_
  rintro _ H1 ⟨rfl, hH1⟩
  have h1l : H1.length = h.length + 1 := by rw [hH1]; simp
  have q0 : qV ((0 : Int) : Rat) = .agg #[Zx 0, Zx 1] := rfl
  have n5 : (H1 ++ [Blk.cells [.int .i64 0, .int .i64 0] 26 false])[H1.length]? = some z0 := Yl _ _
  simp (maxSteps := 2000000) only [s61, ↓Za, ↓Zk, ↓Zr, ↓Ze, ↓Zj, ↓Zs, ↓Zg, ↓Zi, ↓Zf, ↓Zc, ↓Zb, ↓vdn, vup, Zl, Zh, Zm, Zo, Zn, List.map_cons, List.map_nil, cond_true, cond_false, aop, Zv, Zq, Zp, ev, sput, Zt, Zz, Yb, unK, Zd, Zw, Nat.reduceBEq, Nat.reduceAdd, Int.reduceBEq, Int.reduceBNe, Int.reduceLT, Zu, Ya, tup, tyf, Xq, Xb, Xp, q0, Wi n5 rfl, Wj]
  rw [h1l]
  obtain ⟨H0, hH0⟩ : ∃ H0, H0 = H1 ++ [fC 0 1] := ⟨_, rfl⟩
  have d4 : H0[h.length]? = some z0 := by rw [hH0, hH1]; exact b2_0 ..
  have d5 : H0[h.length + 1]? = some (fC 0 1) := by rw [hH0, hH1]; exact b2_1 ..
  have dE : Ext (fun _ => False) h H0 := by rw [hH0, hH1]; exact e2 ..
  rw [← hH0]
  refine hN10 [(0, v), (1, Zx (evt : Nat)), (4, .pointer (some ⟨h.length, 0, none⟩)), (5, .pointer (some ⟨h.length + 1, 0, none⟩))] _ _ ?_ (by simp (maxSteps := 2000000) only [↓Za, ↓Zk, ↓Zr, ↓Ze, ↓Zj, ↓Zs, ↓Zg, ↓Zi, ↓Zf, ↓Zc, ↓Zb, ↓vdn, vup, Zl, Zh, Zm, Zo, Zn, List.map_cons, List.map_nil, cond_true, cond_false, aop, Zv, Zq, Zp, ev, sput, Zt, Zz, Yb, unK, Zd, Zw, Nat.reduceBEq, Nat.reduceAdd, Int.reduceBEq, Int.reduceBNe, Int.reduceLT, Zu, Ya, tup, tyf])
  clear hN10
  try clear N10
  refine Ye fun Z hZ => ?_
  refine Zy fun N11 hN11 => ?_
  simp (maxSteps := 2000000) only [s61, ↓Za, ↓Zk, ↓Zr, ↓Ze, ↓Zj, ↓Zs, ↓Zg, ↓Zi, ↓Zf, ↓Zc, ↓Zb, ↓vdn, vup, Zl, Zh, Zm, Zo, Zn, List.map_cons, List.map_nil, cond_true, cond_false, aop, Zv, Zq, Zp, ev, sput, Zt, Zz, Yb, unK, Zd, Zw, Nat.reduceBEq, Nat.reduceAdd, Int.reduceBEq, Int.reduceBNe, Int.reduceLT, Zu, Ya, tup, tyf, hv.len]
  refine hN11 [(0, v), (1, Zx (evt : Nat)), (4, .pointer (some ⟨h.length, 0, none⟩)), (5, .pointer (some ⟨h.length + 1, 0, none⟩)), (9, v), (10, Zx ps.length), (11, .int .i64 0)] _ _ ?_ (by simp (maxSteps := 2000000) only [↓Za, ↓Zk, ↓Zr, ↓Ze, ↓Zj, ↓Zs, ↓Zg, ↓Zi, ↓Zf, ↓Zc, ↓Zb, ↓vdn, vup, Zl, Zh, Zm, Zo, Zn, List.map_cons, List.map_nil, cond_true, cond_false, aop, Zv, Zq, Zp, ev, sput, Zt, Zz, Yb, unK, Zd, Zw, Nat.reduceBEq, Nat.reduceAdd, Int.reduceBEq, Int.reduceBNe, Int.reduceLT, Zu, Ya, tup, tyf])
  clear hN11
  try clear N11
  refine Yf ?_
  refine Yh fun Q hQ => ?_
  refine Yz (γ := Nat × Yc) (fun s => s.1 ≤ ps.length ∧ Ext (fun _ => False) h s.2 ∧ s.2[h.length]? = some z0 ∧ s.2[h.length + 1]? = some (fC (Xo (inEv (fq ps) evt) s.1).num (Xo (inEv (fq ps) evt) s.1).den))
    (fun s => ([(0, v), (1, Zx (evt : Nat)), (4, .pointer (some ⟨h.length, 0, none⟩)), (5, .pointer (some ⟨h.length + 1, 0, none⟩)), (9, v), (10, Zx ps.length), (11, Zx (s.1 : Nat))], s.2)) (fun s => ps.length - s.1) (0, H0) ⟨Nat.zero_le _, dE, d4, d5⟩ (by simp (maxSteps := 2000000) only [↓Za, ↓Zk, ↓Zr, ↓Ze, ↓Zj, ↓Zs, ↓Zg, ↓Zi, ↓Zf, ↓Zc, ↓Zb, ↓vdn, vup, Zl, Zh, Zm, Zo, Zn, List.map_cons, List.map_nil, cond_true, cond_false, aop, Zv, Zq, Zp, ev, sput, Zt, Zz, Yb, unK, Zd, Zw, Nat.reduceBEq, Nat.reduceAdd, Int.reduceBEq, Int.reduceBNe, Int.reduceLT, Zu, Ya, tup, tyf, Int.natCast_zero]) rfl ?_
  rintro ⟨k, hp⟩ ⟨hk, hE, k4, k5⟩
  simp only at hk hE k4 k5
  refine Yh fun Q2 hQ2 => ?_
  simp only [l61_0]
  by_cases hin : (k : Int) < ps.length
  · have hk' : k < ps.length := by omega
    have hvp := hv.ext hE
    obtain ⟨⟨x, y⟩, hxy⟩ : ∃ p, ps.getD k (0, 0) = p := ⟨_, rfl⟩
    have hmem : (x, y) ∈ ps := hxy ▸ Wa hk'
    have hxq := frV_q (hvl _ hmem)
    have hfq : fq ps k = toQ (x, y) := by rw [fq, hxy]
    have ht := testV (y := k) hev
    obtain ⟨s1, s2, s3⟩ := hs k hk
    obtain ⟨t1, t2, t3⟩ := hq k hk'
    have hnext : Xo (inEv (fq ps) evt) (k + 1) = Xo (inEv (fq ps) evt) k + if evt.testBit k then fq ps k else 0 := rfl
    obtain ⟨H, hH⟩ : ∃ H, H = hp ++ [fC x y] := ⟨_, rfl⟩
    have c7 : H[hp.length]? = some (fC x y) := by rw [hH]; exact Yl _ _
    have c4 : H[h.length]? = some z0 := by rw [hH]; exact Xr k4 _
    have c5 : H[h.length + 1]? = some (fC (Xo (inEv (fq ps) evt) k).num (Xo (inEv (fq ps) evt) k).den) := by rw [hH]; exact Xr k5 _
    have hEH : Ext (fun _ => False) h H := by rw [hH]; exact hE.trans (Ext.app _ _ _)
    refine Zy fun N12 hN12 => ?_
    simp (maxSteps := 2000000) only [s61, ↓Za, ↓Zk, ↓Zr, ↓Ze, ↓Zj, ↓Zs, ↓Zg, ↓Zi, ↓Zf, ↓Zc, ↓Zb, ↓vdn, vup, Zl, Zh, Zm, Zo, Zn, List.map_cons, List.map_nil, cond_true, cond_false, aop, Zv, Zq, Zp, ev, sput, Zt, Zz, Yb, unK, Zd, Zw, Nat.reduceBEq, Nat.reduceAdd, Int.reduceBEq, Int.reduceBNe, Int.reduceLT, Zu, Ya, tup, tyf, hin]
    refine hN12 [(0, v), (1, Zx (evt : Nat)), (4, .pointer (some ⟨h.length, 0, none⟩)), (5, .pointer (some ⟨h.length + 1, 0, none⟩)), (9, v), (10, Zx ps.length), (11, Zx (k : Nat)), (12, .bool true)] _ _ ?_ (by simp (maxSteps := 2000000) only [↓Za, ↓Zk, ↓Zr, ↓Ze, ↓Zj, ↓Zs, ↓Zg, ↓Zi, ↓Zf, ↓Zc, ↓Zb, ↓vdn, vup, Zl, Zh, Zm, Zo, Zn, List.map_cons, List.map_nil, cond_true, cond_false, aop, Zv, Zq, Zp, ev, sput, Zt, Zz, Yb, unK, Zd, Zw, Nat.reduceBEq, Nat.reduceAdd, Int.reduceBEq, Int.reduceBNe, Int.reduceLT, Zu, Ya, tup, tyf])
    clear hN12
    try clear N12
    refine Zy fun N13 hN13 => ?_
    simp (maxSteps := 2000000) only [s61, ↓Za, ↓Zk, ↓Zr, ↓Ze, ↓Zj, ↓Zs, ↓Zg, ↓Zi, ↓Zf, ↓Zc, ↓Zb, ↓vdn, vup, Zl, Zh, Zm, Zo, Zn, List.map_cons, List.map_nil, cond_true, cond_false, aop, Zv, Zq, Zp, ev, sput, Zt, Zz, Yb, unK, Zd, Zw, Nat.reduceBEq, Nat.reduceAdd, Int.reduceBEq, Int.reduceBNe, Int.reduceLT, Zu, Ya, tup, tyf]
    refine hN13 [(0, v), (1, Zx (evt : Nat)), (4, .pointer (some ⟨h.length, 0, none⟩)), (5, .pointer (some ⟨h.length + 1, 0, none⟩)), (9, v), (10, Zx ps.length), (11, Zx (k : Nat))] _ _ ?_ (by simp (maxSteps := 2000000) only [↓Za, ↓Zk, ↓Zr, ↓Ze, ↓Zj, ↓Zs, ↓Zg, ↓Zi, ↓Zf, ↓Zc, ↓Zb, ↓vdn, vup, Zl, Zh, Zm, Zo, Zn, List.map_cons, List.map_nil, cond_true, cond_false, aop, Zv, Zq, Zp, ev, sput, Zt, Zz, Yb, unK, Zd, Zw, Nat.reduceBEq, Nat.reduceAdd, Int.reduceBEq, Int.reduceBNe, Int.reduceLT, Zu, Ya, tup, tyf])
    clear hN13
    try clear N13
    refine Ye fun B hB => ?_
    refine Yf ?_
    refine Zy fun N14 hN14 => ?_
    simp (maxSteps := 2000000) only [s61, ↓Za, ↓Zk, ↓Zr, ↓Ze, ↓Zj, ↓Zs, ↓Zg, ↓Zi, ↓Zf, ↓Zc, ↓Zb, ↓vdn, vup, Zl, Zh, Zm, Zo, Zn, List.map_cons, List.map_nil, cond_true, cond_false, aop, Zv, Zq, Zp, ev, sput, Zt, Zz, Yb, unK, Zd, Zw, Nat.reduceBEq, Nat.reduceAdd, Int.reduceBEq, Int.reduceBNe, Int.reduceLT, Zu, Ya, tup, tyf, hvp.idx el_90 Wh hk', hvp.load Vh hk', hxy, Xq, Xb, Xp, Wi (Yl hp z0) rfl, Wj]
    rw [← hH]
    refine hN14 [(0, v), (1, Zx (evt : Nat)), (4, .pointer (some ⟨h.length, 0, none⟩)), (5, .pointer (some ⟨h.length + 1, 0, none⟩)), (6, Zx (k : Nat)), (7, .pointer (some ⟨hp.length, 0, none⟩)), (9, v), (10, Zx ps.length), (11, Zx (k : Nat))] _ _ ?_ (by simp (maxSteps := 2000000) only [↓Za, ↓Zk, ↓Zr, ↓Ze, ↓Zj, ↓Zs, ↓Zg, ↓Zi, ↓Zf, ↓Zc, ↓Zb, ↓vdn, vup, Zl, Zh, Zm, Zo, Zn, List.map_cons, List.map_nil, cond_true, cond_false, aop, Zv, Zq, Zp, ev, sput, Zt, Zz, Yb, unK, Zd, Zw, Nat.reduceBEq, Nat.reduceAdd, Int.reduceBEq, Int.reduceBNe, Int.reduceLT, Zu, Ya, tup, tyf])
    clear hN14
    try clear N14
    have fin : ∀ e h2, Ext (fun _ => False) h h2 → h2[h.length]? = some z0 → h2[h.length + 1]? = some (fC (Xo (inEv (fq ps) evt) (k + 1)).num (Xo (inEv (fq ps) evt) (k + 1)).den) → ELe e [(0, v), (1, Zx (evt : Nat)), (4, .pointer (some ⟨h.length, 0, none⟩)), (5, .pointer (some ⟨h.length + 1, 0, none⟩)), (9, v), (10, Zx ps.length), (11, Zx (k : Nat))] → B e h2 := by
      intro e h2 g1 g2 g3 he
      refine hB _ _ _ ?_ he
      refine Yd ?_
      simp (maxSteps := 2000000) only [s61, ↓Za, ↓Zk, ↓Zr, ↓Ze, ↓Zj, ↓Zs, ↓Zg, ↓Zi, ↓Zf, ↓Zc, ↓Zb, ↓vdn, vup, Zl, Zh, Zm, Zo, Zn, List.map_cons, List.map_nil, cond_true, cond_false, aop, Zv, Zq, Zp, ev, sput, Zt, Zz, Yb, unK, Zd, Zw, Nat.reduceBEq, Nat.reduceAdd, Int.reduceBEq, Int.reduceBNe, Int.reduceLT, Zu, Ya, tup, tyf, add1 (show k < 9223372036854775807 by omega)]
      exact hQ2 _ _ _ ⟨(k + 1, h2), ⟨hk', g1, g2, g3⟩, by simp only; omega, by simp (maxSteps := 2000000) only [↓Za, ↓Zk, ↓Zr, ↓Ze, ↓Zj, ↓Zs, ↓Zg, ↓Zi, ↓Zf, ↓Zc, ↓Zb, ↓vdn, vup, Zl, Zh, Zm, Zo, Zn, List.map_cons, List.map_nil, cond_true, cond_false, aop, Zv, Zq, Zp, ev, sput, Zt, Zz, Yb, unK, Zd, Zw, Nat.reduceBEq, Nat.reduceAdd, Int.reduceBEq, Int.reduceBNe, Int.reduceLT, Zu, Ya, tup, tyf], rfl⟩
    refine Zy fun N15 hN15 => ?_
    simp (maxSteps := 2000000) only [s61, ↓Za, ↓Zk, ↓Zr, ↓Ze, ↓Zj, ↓Zs, ↓Zg, ↓Zi, ↓Zf, ↓Zc, ↓Zb, ↓vdn, vup, Zl, Zh, Zm, Zo, Zn, List.map_cons, List.map_nil, cond_true, cond_false, aop, Zv, Zq, Zp, ev, sput, Zt, Zz, Yb, unK, Zd, Zw, Nat.reduceBEq, Nat.reduceAdd, Int.reduceBEq, Int.reduceBNe, Int.reduceLT, Zu, Ya, tup, tyf, ht, beq1]
    refine hN15 [(0, v), (1, Zx (evt : Nat)), (4, .pointer (some ⟨h.length, 0, none⟩)), (5, .pointer (some ⟨h.length + 1, 0, none⟩)), (6, Zx (k : Nat)), (7, .pointer (some ⟨hp.length, 0, none⟩)), (9, v), (10, Zx ps.length), (11, Zx (k : Nat)), (20, .bool (evt.testBit k))] _ _ ?_ (by simp (maxSteps := 2000000) only [↓Za, ↓Zk, ↓Zr, ↓Ze, ↓Zj, ↓Zs, ↓Zg, ↓Zi, ↓Zf, ↓Zc, ↓Zb, ↓vdn, vup, Zl, Zh, Zm, Zo, Zn, List.map_cons, List.map_nil, cond_true, cond_false, aop, Zv, Zq, Zp, ev, sput, Zt, Zz, Yb, unK, Zd, Zw, Nat.reduceBEq, Nat.reduceAdd, Int.reduceBEq, Int.reduceBNe, Int.reduceLT, Zu, Ya, tup, tyf])
    clear hN15
    try clear N15
    refine Yd ?_
    cases hbit : evt.testBit k with
    | false =>
      rw [hbit, if_neg (by decide), Rat.add_zero] at hnext
      simp (maxSteps := 2000000) only [s61, ↓Za, ↓Zk, ↓Zr, ↓Ze, ↓Zj, ↓Zs, ↓Zg, ↓Zi, ↓Zf, ↓Zc, ↓Zb, ↓vdn, vup, Zl, Zh, Zm, Zo, Zn, List.map_cons, List.map_nil, cond_true, cond_false, aop, Zv, Zq, Zp, ev, sput, Zt, Zz, Yb, unK, Zd, Zw, Nat.reduceBEq, Nat.reduceAdd, Int.reduceBEq, Int.reduceBNe, Int.reduceLT, Zu, Ya, tup, tyf, hbit]
      exact fin _ _ hEH c4 (by rw [hnext]; exact c5) (by simp (maxSteps := 2000000) only [↓Za, ↓Zk, ↓Zr, ↓Ze, ↓Zj, ↓Zs, ↓Zg, ↓Zi, ↓Zf, ↓Zc, ↓Zb, ↓vdn, vup, Zl, Zh, Zm, Zo, Zn, List.map_cons, List.map_nil, cond_true, cond_false, aop, Zv, Zq, Zp, ev, sput, Zt, Zz, Yb, unK, Zd, Zw, Nat.reduceBEq, Nat.reduceAdd, Int.reduceBEq, Int.reduceBNe, Int.reduceLT, Zu, Ya, tup, tyf])
    | true =>
      rw [hbit, if_pos rfl] at hnext
      have pl := plus_fits (h := H) (k := 1) (A := 100) (B := 1) hN (by omega) s3 t3 (Rat.le_trans (by decide) s1) s2 (Rat.le_trans (by decide) t1) t2 (by simp; omega)
      rw [show (((1 : Int)) : Rat) = 1 from rfl, Rat.one_mul, ← hnext, hfq, ← hxq] at pl
      obtain ⟨q, hqq⟩ : ∃ q, Xo (inEv (fq ps) evt) (k + 1) = q := ⟨_, rfl⟩
      rw [hqq] at pl fin
      obtain ⟨s, hss⟩ : ∃ s, Xo (inEv (fq ps) evt) k = s := ⟨_, rfl⟩
      rw [hss] at pl c5
      simp (maxSteps := 2000000) only [s61, ↓Za, ↓Zk, ↓Zr, ↓Ze, ↓Zj, ↓Zs, ↓Zg, ↓Zi, ↓Zf, ↓Zc, ↓Zb, ↓vdn, vup, Zl, Zh, Zm, Zo, Zn, List.map_cons, List.map_nil, cond_true, cond_false, aop, Zv, Zq, Zp, ev, sput, Zt, Zz, Yb, unK, Zd, Zw, Nat.reduceBEq, Nat.reduceAdd, Int.reduceBEq, Int.reduceBNe, Int.reduceLT, Zu, Ya, tup, tyf, hbit, loadF c5, loadF c7, Yx, List.nil_append, List.append_nil, List.toList_toArray, List.cons_append]
      refine (show Xi prog 71 [.agg #[Zx s.num, Zx s.den], Zx 1, .agg #[Zx x, Zx y]] H (qV q) from pl).mono ?_
      rintro _ H ⟨rfl, rfl⟩
      simp (maxSteps := 2000000) only [s61, ↓Za, ↓Zk, ↓Zr, ↓Ze, ↓Zj, ↓Zs, ↓Zg, ↓Zi, ↓Zf, ↓Zc, ↓Zb, ↓vdn, vup, Zl, Zh, Zm, Zo, Zn, List.map_cons, List.map_nil, cond_true, cond_false, aop, Zv, Zq, Zp, ev, sput, Zt, Zz, Yb, unK, Zd, Zw, Nat.reduceBEq, Nat.reduceAdd, Int.reduceBEq, Int.reduceBNe, Int.reduceLT, Zu, Ya, tup, tyf, qV, frV, Wi c5 rfl]
      refine fin _ _ (hEH.set_ge (by omega) _) (by rw [List.getElem?_set_ne (by omega)]; exact c4) (Wr (Xj c5) _) (by simp (maxSteps := 2000000) only [↓Za, ↓Zk, ↓Zr, ↓Ze, ↓Zj, ↓Zs, ↓Zg, ↓Zi, ↓Zf, ↓Zc, ↓Zb, ↓vdn, vup, Zl, Zh, Zm, Zo, Zn, List.map_cons, List.map_nil, cond_true, cond_false, aop, Zv, Zq, Zp, ev, sput, Zt, Zz, Yb, unK, Zd, Zw, Nat.reduceBEq, Nat.reduceAdd, Int.reduceBEq, Int.reduceBNe, Int.reduceLT, Zu, Ya, tup, tyf])
  · obtain rfl : k = ps.length := by omega
    refine Zy fun N16 hN16 => ?_
    simp (maxSteps := 2000000) only [s61, ↓Za, ↓Zk, ↓Zr, ↓Ze, ↓Zj, ↓Zs, ↓Zg, ↓Zi, ↓Zf, ↓Zc, ↓Zb, ↓vdn, vup, Zl, Zh, Zm, Zo, Zn, List.map_cons, List.map_nil, cond_true, cond_false, aop, Zv, Zq, Zp, ev, sput, Zt, Zz, Yb, unK, Zd, Zw, Nat.reduceBEq, Nat.reduceAdd, Int.reduceBEq, Int.reduceBNe, Int.reduceLT, Zu, Ya, tup, tyf, hin]
    refine hN16 [(0, v), (1, Zx (evt : Nat)), (4, .pointer (some ⟨h.length, 0, none⟩)), (5, .pointer (some ⟨h.length + 1, 0, none⟩)), (9, v), (10, Zx ps.length), (11, Zx ps.length), (12, .bool false)] _ _ ?_ (by simp (maxSteps := 2000000) only [↓Za, ↓Zk, ↓Zr, ↓Ze, ↓Zj, ↓Zs, ↓Zg, ↓Zi, ↓Zf, ↓Zc, ↓Zb, ↓vdn, vup, Zl, Zh, Zm, Zo, Zn, List.map_cons, List.map_nil, cond_true, cond_false, aop, Zv, Zq, Zp, ev, sput, Zt, Zz, Yb, unK, Zd, Zw, Nat.reduceBEq, Nat.reduceAdd, Int.reduceBEq, Int.reduceBNe, Int.reduceLT, Zu, Ya, tup, tyf])
    clear hN16
    try clear N16
    refine Zy fun N17 hN17 => ?_
    simp (maxSteps := 2000000) only [s61, ↓Za, ↓Zk, ↓Zr, ↓Ze, ↓Zj, ↓Zs, ↓Zg, ↓Zi, ↓Zf, ↓Zc, ↓Zb, ↓vdn, vup, Zl, Zh, Zm, Zo, Zn, List.map_cons, List.map_nil, cond_true, cond_false, aop, Zv, Zq, Zp, ev, sput, Zt, Zz, Yb, unK, Zd, Zw, Nat.reduceBEq, Nat.reduceAdd, Int.reduceBEq, Int.reduceBNe, Int.reduceLT, Zu, Ya, tup, tyf]
    refine hQ2 _ _ _ (hQ _ _ _ ?_)
    simp (maxSteps := 2000000) only [s61, ↓Za, ↓Zk, ↓Zr, ↓Ze, ↓Zj, ↓Zs, ↓Zg, ↓Zi, ↓Zf, ↓Zc, ↓Zb, ↓vdn, vup, Zl, Zh, Zm, Zo, Zn, List.map_cons, List.map_nil, cond_true, cond_false, aop, Zv, Zq, Zp, ev, sput, Zt, Zz, Yb, unK, Zd, Zw, Nat.reduceBEq, Nat.reduceAdd, Int.reduceBEq, Int.reduceBNe, Int.reduceLT, Zu, Ya, tup, tyf, if_true]
    refine hZ [(0, v), (1, Zx (evt : Nat)), (4, .pointer (some ⟨h.length, 0, none⟩)), (5, .pointer (some ⟨h.length + 1, 0, none⟩)), (9, v), (10, Zx ps.length), (11, Zx ps.length), (12, .bool false)] _ _ ?_ (by simp (maxSteps := 2000000) only [↓Za, ↓Zk, ↓Zr, ↓Ze, ↓Zj, ↓Zs, ↓Zg, ↓Zi, ↓Zf, ↓Zc, ↓Zb, ↓vdn, vup, Zl, Zh, Zm, Zo, Zn, List.map_cons, List.map_nil, cond_true, cond_false, aop, Zv, Zq, Zp, ev, sput, Zt, Zz, Yb, unK, Zd, Zw, Nat.reduceBEq, Nat.reduceAdd, Int.reduceBEq, Int.reduceBNe, Int.reduceLT, Zu, Ya, tup, tyf])
    clear hZ
    try clear Z
    obtain ⟨q, hqq⟩ : ∃ q, Xo (inEv (fq ps) evt) ps.length = q := ⟨_, rfl⟩
    rw [hqq] at k5 ⊢
    refine Yd ?_
    simp (maxSteps := 2000000) only [s61, ↓Za, ↓Zk, ↓Zr, ↓Ze, ↓Zj, ↓Zs, ↓Zg, ↓Zi, ↓Zf, ↓Zc, ↓Zb, ↓vdn, vup, Zl, Zh, Zm, Zo, Zn, List.map_cons, List.map_nil, cond_true, cond_false, aop, Zv, Zq, Zp, ev, sput, Zt, Zz, Yb, unK, Zd, Zw, Nat.reduceBEq, Nat.reduceAdd, Int.reduceBEq, Int.reduceBNe, Int.reduceLT, Zu, Ya, tup, tyf, loadF k5, Wi k4 rfl, loadF (Wr (Xj k4) _)]
    exact ⟨rfl, hE.set_ge (Nat.le_refl _) _⟩
end Go.Proofs.Try.Am

namespace Go.Proofs.Try.Am
open Go.Am Bq
set_option maxRecDepth 100000
set_option maxHeartbeats 1000000

theorem shl1 {n : Nat} (h : n ≤ 62) : shlV .i64 1 n = 2 ^ n := by
  have h2 : 2 ^ n ≤ 2 ^ 62 := Nat.pow_le_pow_right (by decide) h
  have := shlV_nat (a := 1) (y := n) (by omega) (by omega)
  simpa using this
theorem pow_cast (n : Nat) : ((2 ^ n : Nat) : Int) = 2 ^ n := by simp
theorem pow_le {n : Nat} (h : n ≤ 62) : 2 ^ n ≤ 4611686018427387904 := Nat.pow_le_pow_right (n := 2) (j := 62) (by decide) h
/-- All worlds. -/
theorem all_worlds {n : Nat} (h : n ≤ 62) : subV .i64 (2 ^ n) 1 = ((2 ^ n - 1 : Nat) : Int) := by
  have := pow_le h
  have := Nat.two_pow_pos n
  rw [← pow_cast, subV_id (by omega) (by omega)]; omega
theorem inEv_all {f : Nat → Rat} {n : Nat} : Xo (inEv f (2 ^ n - 1)) n = Xo f n := sumTo_congr fun i hi => by
  rw [inEv, Nat.testBit_two_pow_sub_one]; simp [hi]
end Go.Proofs.Try.Am

namespace Go.Proofs.Try.Am
open Go.Am Bq
set_option maxRecDepth 100000
set_option maxHeartbeats 4000000

theorem min_lt {xs : List Int} (h0 : 0 < xs.length) (c : Int) : minTo xs (xs.length - 1) < c ↔ ∃ i, i < xs.length ∧ xs.getD i 0 < c := by
  obtain ⟨h1, i, hi, h2⟩ := minTo_spec xs (xs.length - 1)
  constructor
  · intro h; exact ⟨i, by omega, by omega⟩
  · rintro ⟨j, hj, h⟩; have := h1 j (by omega); omega
theorem max_gt {xs : List Int} (h0 : 0 < xs.length) (c : Int) : maxTo xs (xs.length - 1) > c ↔ ∃ i, i < xs.length ∧ c < xs.getD i 0 := by
  obtain ⟨h1, i, hi, h2⟩ := maxTo_spec xs (xs.length - 1)
  constructor
  · intro h; exact ⟨i, by omega, by omega⟩
  · rintro ⟨j, hj, h⟩; have := h1 j (by omega); omega

theorem s80_callW [Tabs Try.prog] {args : List Value} {h : Yc} {Q : Value → Yc → Prop} (hsz : args.length ≤ 55) (hk : AWS Try.prog 55 s80 (Zu Try.prog [.tmp 4] Q) (Zp 0 args) h) : ACall Try.prog 80 args h Q :=
  Yv Try.func80 rfl (enters_of Try.func80 (by kernel_rfl) rfl) rfl rfl (by decide) s80_strip s80_ok hsz hk
theorem israce_call [Tabs prog] {h : Yc} {u v : Value} {xs ys : List Int} (hu : IntSl h u xs) (hv : IntSl h v ys) (hlx : xs.length < 9223372036854775808) (hly : ys.length < 9223372036854775808) : Xi prog 80 [u, v] h (.bool (raceB xs ys)) := by
  refine s80_callW (by simp) ?_
  simp only [s80]
  refine Zy fun N1 hN1 => ?_
  simp (maxSteps := 2000000) only [s80, ↓Za, ↓Zk, ↓Zr, ↓Ze, ↓Zj, ↓Zs, ↓Zg, ↓Zi, ↓Zf, ↓Zc, ↓Zb, ↓vdn, vup, Zl, Zh, Zm, Zo, Zn, List.map_cons, List.map_nil, cond_true, cond_false, aop, Zv, Zq, Zp, ev, sput, Zt, Zz, Yb, unK, Zd, Zw, Nat.reduceBEq, Nat.reduceAdd, Int.reduceBEq, Int.reduceBNe, Int.reduceLT, Zu, Ya, tup, tyf]
  refine hN1 [(0, u), (1, v), (4, .bool false)] _ _ ?_ (by simp (maxSteps := 2000000) only [↓Za, ↓Zk, ↓Zr, ↓Ze, ↓Zj, ↓Zs, ↓Zg, ↓Zi, ↓Zf, ↓Zc, ↓Zb, ↓vdn, vup, Zl, Zh, Zm, Zo, Zn, List.map_cons, List.map_nil, cond_true, cond_false, aop, Zv, Zq, Zp, ev, sput, Zt, Zz, Yb, unK, Zd, Zw, Nat.reduceBEq, Nat.reduceAdd, Int.reduceBEq, Int.reduceBNe, Int.reduceLT, Zu, Ya, tup, tyf])
  clear hN1
  try clear N1
  refine Zy fun N2 hN2 => ?_
  simp (maxSteps := 2000000) only [s80, ↓Za, ↓Zk, ↓Zr, ↓Ze, ↓Zj, ↓Zs, ↓Zg, ↓Zi, ↓Zf, ↓Zc, ↓Zb, ↓vdn, vup, Zl, Zh, Zm, Zo, Zn, List.map_cons, List.map_nil, cond_true, cond_false, aop, Zv, Zq, Zp, ev, sput, Zt, Zz, Yb, unK, Zd, Zw, Nat.reduceBEq, Nat.reduceAdd, Int.reduceBEq, Int.reduceBNe, Int.reduceLT, Zu, Ya, tup, tyf, hu.len]
  refine hN2 [(0, u), (1, v), (4, .bool false), (5, Zx xs.length)] _ _ ?_ (by simp (maxSteps := 2000000) only [↓Za, ↓Zk, ↓Zr, ↓Ze, ↓Zj, ↓Zs, ↓Zg, ↓Zi, ↓Zf, ↓Zc, ↓Zb, ↓vdn, vup, Zl, Zh, Zm, Zo, Zn, List.map_cons, List.map_nil, cond_true, cond_false, aop, Zv, Zq, Zp, ev, sput, Zt, Zz, Yb, unK, Zd, Zw, Nat.reduceBEq, Nat.reduceAdd, Int.reduceBEq, Int.reduceBNe, Int.reduceLT, Zu, Ya, tup, tyf])
  clear hN2
  try clear N2
  refine Ye fun M hM => ?_
  refine Zy fun N3 hN3 => ?_
  have bad : ¬ RaceP xs ys → ∀ e, ELe e [(0, u), (1, v), (4, .bool false), (5, Zx xs.length), (42, .bool true)] → N3 e h := by
    intro hn e he
    refine hN3 _ _ _ ?_ he
    refine Vn rfl ?_
    refine Yd ?_
    simp (maxSteps := 2000000) only [s80, ↓Za, ↓Zk, ↓Zr, ↓Ze, ↓Zj, ↓Zs, ↓Zg, ↓Zi, ↓Zf, ↓Zc, ↓Zb, ↓vdn, vup, Zl, Zh, Zm, Zo, Zn, List.map_cons, List.map_nil, cond_true, cond_false, aop, Zv, Zq, Zp, ev, sput, Zt, Zz, Yb, unK, Zd, Zw, Nat.reduceBEq, Nat.reduceAdd, Int.reduceBEq, Int.reduceBNe, Int.reduceLT, Zu, Ya, tup, tyf, raceB_no hn]
  by_cases h2 : (xs.length : Int) < 2
  · simp (maxSteps := 2000000) only [s80, ↓Za, ↓Zk, ↓Zr, ↓Ze, ↓Zj, ↓Zs, ↓Zg, ↓Zi, ↓Zf, ↓Zc, ↓Zb, ↓vdn, vup, Zl, Zh, Zm, Zo, Zn, List.map_cons, List.map_nil, cond_true, cond_false, aop, Zv, Zq, Zp, ev, sput, Zt, Zz, Yb, unK, Zd, Zw, Nat.reduceBEq, Nat.reduceAdd, Int.reduceBEq, Int.reduceBNe, Int.reduceLT, Zu, Ya, tup, tyf, h2]
    exact bad (fun r => by have := r.len; omega) _ (by simp (maxSteps := 2000000) only [↓Za, ↓Zk, ↓Zr, ↓Ze, ↓Zj, ↓Zs, ↓Zg, ↓Zi, ↓Zf, ↓Zc, ↓Zb, ↓vdn, vup, Zl, Zh, Zm, Zo, Zn, List.map_cons, List.map_nil, cond_true, cond_false, aop, Zv, Zq, Zp, ev, sput, Zt, Zz, Yb, unK, Zd, Zw, Nat.reduceBEq, Nat.reduceAdd, Int.reduceBEq, Int.reduceBNe, Int.reduceLT, Zu, Ya, tup, tyf])
  by_cases h5 : (xs.length : Int) > 5
  · simp (maxSteps := 2000000) only [s80, ↓Za, ↓Zk, ↓Zr, ↓Ze, ↓Zj, ↓Zs, ↓Zg, ↓Zi, ↓Zf, ↓Zc, ↓Zb, ↓vdn, vup, Zl, Zh, Zm, Zo, Zn, List.map_cons, List.map_nil, cond_true, cond_false, aop, Zv, Zq, Zp, ev, sput, Zt, Zz, Yb, unK, Zd, Zw, Nat.reduceBEq, Nat.reduceAdd, Int.reduceBEq, Int.reduceBNe, Int.reduceLT, Zu, Ya, tup, tyf, h2, h5]
    exact bad (fun r => by have := r.len; omega) _ (by simp (maxSteps := 2000000) only [↓Za, ↓Zk, ↓Zr, ↓Ze, ↓Zj, ↓Zs, ↓Zg, ↓Zi, ↓Zf, ↓Zc, ↓Zb, ↓vdn, vup, Zl, Zh, Zm, Zo, Zn, List.map_cons, List.map_nil, cond_true, cond_false, aop, Zv, Zq, Zp, ev, sput, Zt, Zz, Yb, unK, Zd, Zw, Nat.reduceBEq, Nat.reduceAdd, Int.reduceBEq, Int.reduceBNe, Int.reduceLT, Zu, Ya, tup, tyf])
  by_cases hl : ys.length = xs.length
  case neg =>
    have hne : (((ys.length : Nat) : Int) != ((xs.length : Nat) : Int)) = true := by
      have : ¬ ((ys.length : Nat) : Int) = ((xs.length : Nat) : Int) := by omega
      simpa [bne] using this
    simp (maxSteps := 2000000) only [s80, ↓Za, ↓Zk, ↓Zr, ↓Ze, ↓Zj, ↓Zs, ↓Zg, ↓Zi, ↓Zf, ↓Zc, ↓Zb, ↓vdn, vup, Zl, Zh, Zm, Zo, Zn, List.map_cons, List.map_nil, cond_true, cond_false, aop, Zv, Zq, Zp, ev, sput, Zt, Zz, Yb, unK, Zd, Zw, Nat.reduceBEq, Nat.reduceAdd, Int.reduceBEq, Int.reduceBNe, Int.reduceLT, Zu, Ya, tup, tyf, hv.len, h2, h5, hne]
    exact bad (fun r => hl r.eq) _ (by simp (maxSteps := 2000000) only [↓Za, ↓Zk, ↓Zr, ↓Ze, ↓Zj, ↓Zs, ↓Zg, ↓Zi, ↓Zf, ↓Zc, ↓Zb, ↓vdn, vup, Zl, Zh, Zm, Zo, Zn, List.map_cons, List.map_nil, cond_true, cond_false, aop, Zv, Zq, Zp, ev, sput, Zt, Zz, Yb, unK, Zd, Zw, Nat.reduceBEq, Nat.reduceAdd, Int.reduceBEq, Int.reduceBNe, Int.reduceLT, Zu, Ya, tup, tyf])
  have hne : (((ys.length : Nat) : Int) != ((xs.length : Nat) : Int)) = false := by rw [hl]; simp
  have hx0 : 0 < xs.length := by omega
  have hy0 : 0 < ys.length := by omega
  simp only [q80_2]
  refine Wu 12 fun N1 hN1 => ?_
  simp (maxSteps := 2000000) only [s80, ↓Za, ↓Zk, ↓Zr, ↓Ze, ↓Zj, ↓Zs, ↓Zg, ↓Zi, ↓Zf, ↓Zc, ↓Zb, ↓vdn, vup, Zl, Zh, Zm, Zo, Zn, List.map_cons, List.map_nil, cond_true, cond_false, aop, Zv, Zq, Zp, ev, sput, Zt, Zz, Yb, unK, Zd, Zw, Nat.reduceBEq, Nat.reduceAdd, Int.reduceBEq, Int.reduceBNe, Int.reduceLT, Zu, Ya, tup, tyf, List.take_succ_cons, List.take_zero, hv.len, h2, h5, hne]
  refine hN1 _ _ ?_
  clear hN1 N1
  refine Wu 3 fun N1 hN1 => ?_
  simp (maxSteps := 2000000) only [s80, ↓Za, ↓Zk, ↓Zr, ↓Ze, ↓Zj, ↓Zs, ↓Zg, ↓Zi, ↓Zf, ↓Zc, ↓Zb, ↓vdn, vup, Zl, Zh, Zm, Zo, Zn, List.map_cons, List.map_nil, cond_true, cond_false, aop, Zv, Zq, Zp, ev, sput, Zt, Zz, Yb, unK, Zd, Zw, Nat.reduceBEq, Nat.reduceAdd, Int.reduceBEq, Int.reduceBNe, Int.reduceLT, Zu, Ya, tup, tyf, List.drop_succ_cons, List.drop_zero, List.take_succ_cons, List.take_zero, Yx, List.nil_append, List.append_nil, List.toList_toArray, List.cons_append]
  refine (min_call hu hx0 (by omega)).mono ?_
  rintro _ h ⟨rfl, rfl⟩
  refine hN1 _ _ ?_
  clear hN1 N1
  refine Wu 5 fun N1 hN1 => ?_
  by_cases c1 : minTo xs (xs.length - 1) < 0
  · simp (maxSteps := 2000000) only [s80, ↓Za, ↓Zk, ↓Zr, ↓Ze, ↓Zj, ↓Zs, ↓Zg, ↓Zi, ↓Zf, ↓Zc, ↓Zb, ↓vdn, vup, Zl, Zh, Zm, Zo, Zn, List.map_cons, List.map_nil, cond_true, cond_false, aop, Zv, Zq, Zp, ev, sput, Zt, Zz, Yb, unK, Zd, Zw, Nat.reduceBEq, Nat.reduceAdd, Int.reduceBEq, Int.reduceBNe, Int.reduceLT, Zu, Ya, tup, tyf, List.drop_succ_cons, List.drop_zero, List.take_succ_cons, List.take_zero, c1]
    refine hN1 _ _ ?_
    simp (maxSteps := 2000000) only [s80, ↓Za, ↓Zk, ↓Zr, ↓Ze, ↓Zj, ↓Zs, ↓Zg, ↓Zi, ↓Zf, ↓Zc, ↓Zb, ↓vdn, vup, Zl, Zh, Zm, Zo, Zn, List.map_cons, List.map_nil, cond_true, cond_false, aop, Zv, Zq, Zp, ev, sput, Zt, Zz, Yb, unK, Zd, Zw, Nat.reduceBEq, Nat.reduceAdd, Int.reduceBEq, Int.reduceBNe, Int.reduceLT, Zu, Ya, tup, tyf, List.drop_succ_cons, List.drop_zero]
    obtain ⟨i, hi, hlt⟩ := (min_lt hx0 0).1 c1
    exact bad (fun r => by have := r.a i hi; omega) _ (by simp (maxSteps := 2000000) only [↓Za, ↓Zk, ↓Zr, ↓Ze, ↓Zj, ↓Zs, ↓Zg, ↓Zi, ↓Zf, ↓Zc, ↓Zb, ↓vdn, vup, Zl, Zh, Zm, Zo, Zn, List.map_cons, List.map_nil, cond_true, cond_false, aop, Zv, Zq, Zp, ev, sput, Zt, Zz, Yb, unK, Zd, Zw, Nat.reduceBEq, Nat.reduceAdd, Int.reduceBEq, Int.reduceBNe, Int.reduceLT, Zu, Ya, tup, tyf])
  have d1 : ∀ i, i < xs.length → 0 ≤ xs.getD i 0 := fun i hi => Int.not_lt.1 fun h => c1 ((min_lt hx0 0).2 ⟨i, hi, h⟩)
  simp (maxSteps := 2000000) only [s80, ↓Za, ↓Zk, ↓Zr, ↓Ze, ↓Zj, ↓Zs, ↓Zg, ↓Zi, ↓Zf, ↓Zc, ↓Zb, ↓vdn, vup, Zl, Zh, Zm, Zo, Zn, List.map_cons, List.map_nil, cond_true, cond_false, aop, Zv, Zq, Zp, ev, sput, Zt, Zz, Yb, unK, Zd, Zw, Nat.reduceBEq, Nat.reduceAdd, Int.reduceBEq, Int.reduceBNe, Int.reduceLT, Zu, Ya, tup, tyf, List.drop_succ_cons, List.drop_zero, List.take_succ_cons, List.take_zero, c1, Yx, List.nil_append, List.append_nil, List.toList_toArray, List.cons_append]
  refine (max_call hu hx0 (by omega)).mono ?_
  rintro _ h ⟨rfl, rfl⟩
  refine hN1 _ _ ?_
  clear hN1 N1
  refine Wu 5 fun N1 hN1 => ?_
  by_cases c2 : maxTo xs (xs.length - 1) > 12
  · simp (maxSteps := 2000000) only [s80, ↓Za, ↓Zk, ↓Zr, ↓Ze, ↓Zj, ↓Zs, ↓Zg, ↓Zi, ↓Zf, ↓Zc, ↓Zb, ↓vdn, vup, Zl, Zh, Zm, Zo, Zn, List.map_cons, List.map_nil, cond_true, cond_false, aop, Zv, Zq, Zp, ev, sput, Zt, Zz, Yb, unK, Zd, Zw, Nat.reduceBEq, Nat.reduceAdd, Int.reduceBEq, Int.reduceBNe, Int.reduceLT, Zu, Ya, tup, tyf, List.drop_succ_cons, List.drop_zero, List.take_succ_cons, List.take_zero, c2]
    refine hN1 _ _ ?_
    simp (maxSteps := 2000000) only [s80, ↓Za, ↓Zk, ↓Zr, ↓Ze, ↓Zj, ↓Zs, ↓Zg, ↓Zi, ↓Zf, ↓Zc, ↓Zb, ↓vdn, vup, Zl, Zh, Zm, Zo, Zn, List.map_cons, List.map_nil, cond_true, cond_false, aop, Zv, Zq, Zp, ev, sput, Zt, Zz, Yb, unK, Zd, Zw, Nat.reduceBEq, Nat.reduceAdd, Int.reduceBEq, Int.reduceBNe, Int.reduceLT, Zu, Ya, tup, tyf, List.drop_succ_cons, List.drop_zero]
    obtain ⟨i, hi, hlt⟩ := (max_gt hx0 12).1 c2
    exact bad (fun r => by have := r.a i hi; omega) _ (by simp (maxSteps := 2000000) only [↓Za, ↓Zk, ↓Zr, ↓Ze, ↓Zj, ↓Zs, ↓Zg, ↓Zi, ↓Zf, ↓Zc, ↓Zb, ↓vdn, vup, Zl, Zh, Zm, Zo, Zn, List.map_cons, List.map_nil, cond_true, cond_false, aop, Zv, Zq, Zp, ev, sput, Zt, Zz, Yb, unK, Zd, Zw, Nat.reduceBEq, Nat.reduceAdd, Int.reduceBEq, Int.reduceBNe, Int.reduceLT, Zu, Ya, tup, tyf])
  have d2 : ∀ i, i < xs.length → xs.getD i 0 ≤ 12 := fun i hi => Int.not_lt.1 fun h => c2 ((max_gt hx0 12).2 ⟨i, hi, h⟩)
  simp (maxSteps := 2000000) only [s80, ↓Za, ↓Zk, ↓Zr, ↓Ze, ↓Zj, ↓Zs, ↓Zg, ↓Zi, ↓Zf, ↓Zc, ↓Zb, ↓vdn, vup, Zl, Zh, Zm, Zo, Zn, List.map_cons, List.map_nil, cond_true, cond_false, aop, Zv, Zq, Zp, ev, sput, Zt, Zz, Yb, unK, Zd, Zw, Nat.reduceBEq, Nat.reduceAdd, Int.reduceBEq, Int.reduceBNe, Int.reduceLT, Zu, Ya, tup, tyf, List.drop_succ_cons, List.drop_zero, List.take_succ_cons, List.take_zero, c2, Yx, List.nil_append, List.append_nil, List.toList_toArray, List.cons_append]
  refine (min_call hv hy0 (by omega)).mono ?_
  rintro _ h ⟨rfl, rfl⟩
  refine hN1 _ _ ?_
  clear hN1 N1
  refine Wu 5 fun N1 hN1 => ?_
  by_cases c3 : minTo ys (ys.length - 1) < 1
  · simp (maxSteps := 2000000) only [s80, ↓Za, ↓Zk, ↓Zr, ↓Ze, ↓Zj, ↓Zs, ↓Zg, ↓Zi, ↓Zf, ↓Zc, ↓Zb, ↓vdn, vup, Zl, Zh, Zm, Zo, Zn, List.map_cons, List.map_nil, cond_true, cond_false, aop, Zv, Zq, Zp, ev, sput, Zt, Zz, Yb, unK, Zd, Zw, Nat.reduceBEq, Nat.reduceAdd, Int.reduceBEq, Int.reduceBNe, Int.reduceLT, Zu, Ya, tup, tyf, List.drop_succ_cons, List.drop_zero, List.take_succ_cons, List.take_zero, c3]
    refine hN1 _ _ ?_
    simp (maxSteps := 2000000) only [s80, ↓Za, ↓Zk, ↓Zr, ↓Ze, ↓Zj, ↓Zs, ↓Zg, ↓Zi, ↓Zf, ↓Zc, ↓Zb, ↓vdn, vup, Zl, Zh, Zm, Zo, Zn, List.map_cons, List.map_nil, cond_true, cond_false, aop, Zv, Zq, Zp, ev, sput, Zt, Zz, Yb, unK, Zd, Zw, Nat.reduceBEq, Nat.reduceAdd, Int.reduceBEq, Int.reduceBNe, Int.reduceLT, Zu, Ya, tup, tyf, List.drop_succ_cons, List.drop_zero]
    obtain ⟨i, hi, hlt⟩ := (min_lt hy0 1).1 c3
    exact bad (fun r => by have := r.b i hi; omega) _ (by simp (maxSteps := 2000000) only [↓Za, ↓Zk, ↓Zr, ↓Ze, ↓Zj, ↓Zs, ↓Zg, ↓Zi, ↓Zf, ↓Zc, ↓Zb, ↓vdn, vup, Zl, Zh, Zm, Zo, Zn, List.map_cons, List.map_nil, cond_true, cond_false, aop, Zv, Zq, Zp, ev, sput, Zt, Zz, Yb, unK, Zd, Zw, Nat.reduceBEq, Nat.reduceAdd, Int.reduceBEq, Int.reduceBNe, Int.reduceLT, Zu, Ya, tup, tyf])
  have d3 : ∀ i, i < ys.length → 1 ≤ ys.getD i 0 := fun i hi => Int.not_lt.1 fun h => c3 ((min_lt hy0 1).2 ⟨i, hi, h⟩)
  simp (maxSteps := 2000000) only [s80, ↓Za, ↓Zk, ↓Zr, ↓Ze, ↓Zj, ↓Zs, ↓Zg, ↓Zi, ↓Zf, ↓Zc, ↓Zb, ↓vdn, vup, Zl, Zh, Zm, Zo, Zn, List.map_cons, List.map_nil, cond_true, cond_false, aop, Zv, Zq, Zp, ev, sput, Zt, Zz, Yb, unK, Zd, Zw, Nat.reduceBEq, Nat.reduceAdd, Int.reduceBEq, Int.reduceBNe, Int.reduceLT, Zu, Ya, tup, tyf, List.drop_succ_cons, List.drop_zero, List.take_succ_cons, List.take_zero, c3, Yx, List.nil_append, List.append_nil, List.toList_toArray, List.cons_append]
  refine (max_call hv hy0 (by omega)).mono ?_
  rintro _ h ⟨rfl, rfl⟩
  refine hN1 _ _ ?_
  clear hN1 N1
  by_cases c4 : maxTo ys (ys.length - 1) > 12
  · simp (maxSteps := 2000000) only [s80, ↓Za, ↓Zk, ↓Zr, ↓Ze, ↓Zj, ↓Zs, ↓Zg, ↓Zi, ↓Zf, ↓Zc, ↓Zb, ↓vdn, vup, Zl, Zh, Zm, Zo, Zn, List.map_cons, List.map_nil, cond_true, cond_false, aop, Zv, Zq, Zp, ev, sput, Zt, Zz, Yb, unK, Zd, Zw, Nat.reduceBEq, Nat.reduceAdd, Int.reduceBEq, Int.reduceBNe, Int.reduceLT, Zu, Ya, tup, tyf, List.drop_succ_cons, List.drop_zero, c4]
    obtain ⟨i, hi, hlt⟩ := (max_gt hy0 12).1 c4
    exact bad (fun r => by have := r.b i hi; omega) _ (by simp (maxSteps := 2000000) only [↓Za, ↓Zk, ↓Zr, ↓Ze, ↓Zj, ↓Zs, ↓Zg, ↓Zi, ↓Zf, ↓Zc, ↓Zb, ↓vdn, vup, Zl, Zh, Zm, Zo, Zn, List.map_cons, List.map_nil, cond_true, cond_false, aop, Zv, Zq, Zp, ev, sput, Zt, Zz, Yb, unK, Zd, Zw, Nat.reduceBEq, Nat.reduceAdd, Int.reduceBEq, Int.reduceBNe, Int.reduceLT, Zu, Ya, tup, tyf])
  have d4 : ∀ i, i < ys.length → ys.getD i 0 ≤ 12 := fun i hi => Int.not_lt.1 fun h => c4 ((max_gt hy0 12).2 ⟨i, hi, h⟩)
  simp (maxSteps := 2000000) only [s80, ↓Za, ↓Zk, ↓Zr, ↓Ze, ↓Zj, ↓Zs, ↓Zg, ↓Zi, ↓Zf, ↓Zc, ↓Zb, ↓vdn, vup, Zl, Zh, Zm, Zo, Zn, List.map_cons, List.map_nil, cond_true, cond_false, aop, Zv, Zq, Zp, ev, sput, Zt, Zz, Yb, unK, Zd, Zw, Nat.reduceBEq, Nat.reduceAdd, Int.reduceBEq, Int.reduceBNe, Int.reduceLT, Zu, Ya, tup, tyf, List.drop_succ_cons, List.drop_zero, c4]
  clear bad
  refine hN3 [(0, u), (1, v), (4, .bool false), (5, Zx xs.length), (42, .bool false)] _ _ ?_ (by simp (maxSteps := 2000000) only [↓Za, ↓Zk, ↓Zr, ↓Ze, ↓Zj, ↓Zs, ↓Zg, ↓Zi, ↓Zf, ↓Zc, ↓Zb, ↓vdn, vup, Zl, Zh, Zm, Zo, Zn, List.map_cons, List.map_nil, cond_true, cond_false, aop, Zv, Zq, Zp, ev, sput, Zt, Zz, Yb, unK, Zd, Zw, Nat.reduceBEq, Nat.reduceAdd, Int.reduceBEq, Int.reduceBNe, Int.reduceLT, Zu, Ya, tup, tyf])
  clear hN3
  try clear N3
  refine Wc rfl ?_
  refine Yd ?_
  simp (maxSteps := 2000000) only [s80, ↓Za, ↓Zk, ↓Zr, ↓Ze, ↓Zj, ↓Zs, ↓Zg, ↓Zi, ↓Zf, ↓Zc, ↓Zb, ↓vdn, vup, Zl, Zh, Zm, Zo, Zn, List.map_cons, List.map_nil, cond_true, cond_false, aop, Zv, Zq, Zp, ev, sput, Zt, Zz, Yb, unK, Zd, Zw, Nat.reduceBEq, Nat.reduceAdd, Int.reduceBEq, Int.reduceBNe, Int.reduceLT, Zu, Ya, tup, tyf]
  refine hM [(0, u), (1, v), (4, .bool false), (5, Zx xs.length)] _ _ ?_ (by simp (maxSteps := 2000000) only [↓Za, ↓Zk, ↓Zr, ↓Ze, ↓Zj, ↓Zs, ↓Zg, ↓Zi, ↓Zf, ↓Zc, ↓Zb, ↓vdn, vup, Zl, Zh, Zm, Zo, Zn, List.map_cons, List.map_nil, cond_true, cond_false, aop, Zv, Zq, Zp, ev, sput, Zt, Zz, Yb, unK, Zd, Zw, Nat.reduceBEq, Nat.reduceAdd, Int.reduceBEq, Int.reduceBNe, Int.reduceLT, Zu, Ya, tup, tyf])
  clear hM
  try clear M
  refine Zy fun N4 hN4 => ?_
  simp (maxSteps := 2000000) only [s80, ↓Za, ↓Zk, ↓Zr, ↓Ze, ↓Zj, ↓Zs, ↓Zg, ↓Zi, ↓Zf, ↓Zc, ↓Zb, ↓vdn, vup, Zl, Zh, Zm, Zo, Zn, List.map_cons, List.map_nil, cond_true, cond_false, aop, Zv, Zq, Zp, ev, sput, Zt, Zz, Yb, unK, Zd, Zw, Nat.reduceBEq, Nat.reduceAdd, Int.reduceBEq, Int.reduceBNe, Int.reduceLT, Zu, Ya, tup, tyf]
  refine hN4 [(0, u), (1, v), (4, .bool false), (5, Zx xs.length), (6, .int .i64 0)] _ _ ?_ (by simp (maxSteps := 2000000) only [↓Za, ↓Zk, ↓Zr, ↓Ze, ↓Zj, ↓Zs, ↓Zg, ↓Zi, ↓Zf, ↓Zc, ↓Zb, ↓vdn, vup, Zl, Zh, Zm, Zo, Zn, List.map_cons, List.map_nil, cond_true, cond_false, aop, Zv, Zq, Zp, ev, sput, Zt, Zz, Yb, unK, Zd, Zw, Nat.reduceBEq, Nat.reduceAdd, Int.reduceBEq, Int.reduceBNe, Int.reduceLT, Zu, Ya, tup, tyf])
  clear hN4
  try clear N4
  refine Ye fun Z hZ => ?_
  refine Zy fun N5 hN5 => ?_
  simp (maxSteps := 2000000) only [s80, ↓Za, ↓Zk, ↓Zr, ↓Ze, ↓Zj, ↓Zs, ↓Zg, ↓Zi, ↓Zf, ↓Zc, ↓Zb, ↓vdn, vup, Zl, Zh, Zm, Zo, Zn, List.map_cons, List.map_nil, cond_true, cond_false, aop, Zv, Zq, Zp, ev, sput, Zt, Zz, Yb, unK, Zd, Zw, Nat.reduceBEq, Nat.reduceAdd, Int.reduceBEq, Int.reduceBNe, Int.reduceLT, Zu, Ya, tup, tyf, hu.len]
  refine hN5 [(0, u), (1, v), (4, .bool false), (5, Zx xs.length), (6, .int .i64 0), (43, u), (44, Zx xs.length), (45, .int .i64 0)] _ _ ?_ (by simp (maxSteps := 2000000) only [↓Za, ↓Zk, ↓Zr, ↓Ze, ↓Zj, ↓Zs, ↓Zg, ↓Zi, ↓Zf, ↓Zc, ↓Zb, ↓vdn, vup, Zl, Zh, Zm, Zo, Zn, List.map_cons, List.map_nil, cond_true, cond_false, aop, Zv, Zq, Zp, ev, sput, Zt, Zz, Yb, unK, Zd, Zw, Nat.reduceBEq, Nat.reduceAdd, Int.reduceBEq, Int.reduceBNe, Int.reduceLT, Zu, Ya, tup, tyf])
  clear hN5
  try clear N5
  refine Yf ?_
  refine Yh fun Q hQ => ?_
  refine Yz (γ := Nat) (fun k => k ≤ xs.length)
    (fun k => ([(0, u), (1, v), (4, .bool false), (5, Zx xs.length), (6, Zx (pSum xs k)), (43, u), (44, Zx xs.length), (45, Zx (k : Nat))], h)) (fun k => xs.length - k) 0 (Nat.zero_le _) (by simp (maxSteps := 2000000) only [↓Za, ↓Zk, ↓Zr, ↓Ze, ↓Zj, ↓Zs, ↓Zg, ↓Zi, ↓Zf, ↓Zc, ↓Zb, ↓vdn, vup, Zl, Zh, Zm, Zo, Zn, List.map_cons, List.map_nil, cond_true, cond_false, aop, Zv, Zq, Zp, ev, sput, Zt, Zz, Yb, unK, Zd, Zw, Nat.reduceBEq, Nat.reduceAdd, Int.reduceBEq, Int.reduceBNe, Int.reduceLT, Zu, Ya, tup, tyf, Int.natCast_zero, pSum]) rfl ?_
  rintro k hk
  refine Yh fun Q2 hQ2 => ?_
  simp only [l80_0]
  by_cases hin : (k : Int) < xs.length
  · have hk' : k < xs.length := by omega
    obtain ⟨x, hx⟩ : ∃ x, xs.getD k 0 = x := ⟨_, rfl⟩
    have e1 := d1 k hk'
    have e2 := d2 k hk'
    rw [hx] at e1 e2
    refine Zy fun N6 hN6 => ?_
    simp (maxSteps := 2000000) only [s80, ↓Za, ↓Zk, ↓Zr, ↓Ze, ↓Zj, ↓Zs, ↓Zg, ↓Zi, ↓Zf, ↓Zc, ↓Zb, ↓vdn, vup, Zl, Zh, Zm, Zo, Zn, List.map_cons, List.map_nil, cond_true, cond_false, aop, Zv, Zq, Zp, ev, sput, Zt, Zz, Yb, unK, Zd, Zw, Nat.reduceBEq, Nat.reduceAdd, Int.reduceBEq, Int.reduceBNe, Int.reduceLT, Zu, Ya, tup, tyf, hin]
    refine hN6 [(0, u), (1, v), (4, .bool false), (5, Zx xs.length), (6, Zx (pSum xs k)), (43, u), (44, Zx xs.length), (45, Zx (k : Nat)), (46, .bool true)] _ _ ?_ (by simp (maxSteps := 2000000) only [↓Za, ↓Zk, ↓Zr, ↓Ze, ↓Zj, ↓Zs, ↓Zg, ↓Zi, ↓Zf, ↓Zc, ↓Zb, ↓vdn, vup, Zl, Zh, Zm, Zo, Zn, List.map_cons, List.map_nil, cond_true, cond_false, aop, Zv, Zq, Zp, ev, sput, Zt, Zz, Yb, unK, Zd, Zw, Nat.reduceBEq, Nat.reduceAdd, Int.reduceBEq, Int.reduceBNe, Int.reduceLT, Zu, Ya, tup, tyf])
    clear hN6
    try clear N6
    refine Zy fun N7 hN7 => ?_
    simp (maxSteps := 2000000) only [s80, ↓Za, ↓Zk, ↓Zr, ↓Ze, ↓Zj, ↓Zs, ↓Zg, ↓Zi, ↓Zf, ↓Zc, ↓Zb, ↓vdn, vup, Zl, Zh, Zm, Zo, Zn, List.map_cons, List.map_nil, cond_true, cond_false, aop, Zv, Zq, Zp, ev, sput, Zt, Zz, Yb, unK, Zd, Zw, Nat.reduceBEq, Nat.reduceAdd, Int.reduceBEq, Int.reduceBNe, Int.reduceLT, Zu, Ya, tup, tyf]
    refine hN7 [(0, u), (1, v), (4, .bool false), (5, Zx xs.length), (6, Zx (pSum xs k)), (43, u), (44, Zx xs.length), (45, Zx (k : Nat))] _ _ ?_ (by simp (maxSteps := 2000000) only [↓Za, ↓Zk, ↓Zr, ↓Ze, ↓Zj, ↓Zs, ↓Zg, ↓Zi, ↓Zf, ↓Zc, ↓Zb, ↓vdn, vup, Zl, Zh, Zm, Zo, Zn, List.map_cons, List.map_nil, cond_true, cond_false, aop, Zv, Zq, Zp, ev, sput, Zt, Zz, Yb, unK, Zd, Zw, Nat.reduceBEq, Nat.reduceAdd, Int.reduceBEq, Int.reduceBNe, Int.reduceLT, Zu, Ya, tup, tyf])
    clear hN7
    try clear N7
    refine Ye fun B hB => ?_
    refine Yf ?_
    refine Zy fun N8 hN8 => ?_
    simp (maxSteps := 2000000) only [s80, ↓Za, ↓Zk, ↓Zr, ↓Ze, ↓Zj, ↓Zs, ↓Zg, ↓Zi, ↓Zf, ↓Zc, ↓Zb, ↓vdn, vup, Zl, Zh, Zm, Zo, Zn, List.map_cons, List.map_nil, cond_true, cond_false, aop, Zv, Zq, Zp, ev, sput, Zt, Zz, Yb, unK, Zd, Zw, Nat.reduceBEq, Nat.reduceAdd, Int.reduceBEq, Int.reduceBNe, Int.reduceLT, Zu, Ya, tup, tyf, hu.idx el_38 Vl hk', hu.load Vb hk', hx]
    refine hN8 [(0, u), (1, v), (4, .bool false), (5, Zx xs.length), (6, Zx (pSum xs k)), (8, Zx x), (43, u), (44, Zx xs.length), (45, Zx (k : Nat))] _ _ ?_ (by simp (maxSteps := 2000000) only [↓Za, ↓Zk, ↓Zr, ↓Ze, ↓Zj, ↓Zs, ↓Zg, ↓Zi, ↓Zf, ↓Zc, ↓Zb, ↓vdn, vup, Zl, Zh, Zm, Zo, Zn, List.map_cons, List.map_nil, cond_true, cond_false, aop, Zv, Zq, Zp, ev, sput, Zt, Zz, Yb, unK, Zd, Zw, Nat.reduceBEq, Nat.reduceAdd, Int.reduceBEq, Int.reduceBNe, Int.reduceLT, Zu, Ya, tup, tyf])
    clear hN8
    try clear N8
    have hs := pSum_le (xs := xs) (n := xs.length) (fun i hi => ⟨d1 i hi, d2 i hi⟩) k hk
    have ha : addV .i64 (pSum xs k) x = pSum xs (k + 1) := by rw [pSum, hx]; exact addV_id (by omega) (by omega)
    refine Yd ?_
    simp (maxSteps := 2000000) only [s80, ↓Za, ↓Zk, ↓Zr, ↓Ze, ↓Zj, ↓Zs, ↓Zg, ↓Zi, ↓Zf, ↓Zc, ↓Zb, ↓vdn, vup, Zl, Zh, Zm, Zo, Zn, List.map_cons, List.map_nil, cond_true, cond_false, aop, Zv, Zq, Zp, ev, sput, Zt, Zz, Yb, unK, Zd, Zw, Nat.reduceBEq, Nat.reduceAdd, Int.reduceBEq, Int.reduceBNe, Int.reduceLT, Zu, Ya, tup, tyf, ha]
    refine hB [(0, u), (1, v), (4, .bool false), (5, Zx xs.length), (6, Zx (pSum xs (k + 1))), (43, u), (44, Zx xs.length), (45, Zx (k : Nat))] _ _ ?_ (by simp (maxSteps := 2000000) only [↓Za, ↓Zk, ↓Zr, ↓Ze, ↓Zj, ↓Zs, ↓Zg, ↓Zi, ↓Zf, ↓Zc, ↓Zb, ↓vdn, vup, Zl, Zh, Zm, Zo, Zn, List.map_cons, List.map_nil, cond_true, cond_false, aop, Zv, Zq, Zp, ev, sput, Zt, Zz, Yb, unK, Zd, Zw, Nat.reduceBEq, Nat.reduceAdd, Int.reduceBEq, Int.reduceBNe, Int.reduceLT, Zu, Ya, tup, tyf])
    clear hB
    try clear B
    refine Yd ?_
    simp (maxSteps := 2000000) only [s80, ↓Za, ↓Zk, ↓Zr, ↓Ze, ↓Zj, ↓Zs, ↓Zg, ↓Zi, ↓Zf, ↓Zc, ↓Zb, ↓vdn, vup, Zl, Zh, Zm, Zo, Zn, List.map_cons, List.map_nil, cond_true, cond_false, aop, Zv, Zq, Zp, ev, sput, Zt, Zz, Yb, unK, Zd, Zw, Nat.reduceBEq, Nat.reduceAdd, Int.reduceBEq, Int.reduceBNe, Int.reduceLT, Zu, Ya, tup, tyf, add1 (show k < 9223372036854775807 by omega)]
    exact hQ2 _ _ _ ⟨k + 1, hk', by omega, by simp (maxSteps := 2000000) only [↓Za, ↓Zk, ↓Zr, ↓Ze, ↓Zj, ↓Zs, ↓Zg, ↓Zi, ↓Zf, ↓Zc, ↓Zb, ↓vdn, vup, Zl, Zh, Zm, Zo, Zn, List.map_cons, List.map_nil, cond_true, cond_false, aop, Zv, Zq, Zp, ev, sput, Zt, Zz, Yb, unK, Zd, Zw, Nat.reduceBEq, Nat.reduceAdd, Int.reduceBEq, Int.reduceBNe, Int.reduceLT, Zu, Ya, tup, tyf], rfl⟩
  · obtain rfl : k = xs.length := by omega
    refine Zy fun N9 hN9 => ?_
    simp (maxSteps := 2000000) only [s80, ↓Za, ↓Zk, ↓Zr, ↓Ze, ↓Zj, ↓Zs, ↓Zg, ↓Zi, ↓Zf, ↓Zc, ↓Zb, ↓vdn, vup, Zl, Zh, Zm, Zo, Zn, List.map_cons, List.map_nil, cond_true, cond_false, aop, Zv, Zq, Zp, ev, sput, Zt, Zz, Yb, unK, Zd, Zw, Nat.reduceBEq, Nat.reduceAdd, Int.reduceBEq, Int.reduceBNe, Int.reduceLT, Zu, Ya, tup, tyf, hin]
    refine hN9 [(0, u), (1, v), (4, .bool false), (5, Zx xs.length), (6, Zx (pSum xs xs.length)), (43, u), (44, Zx xs.length), (45, Zx xs.length), (46, .bool false)] _ _ ?_ (by simp (maxSteps := 2000000) only [↓Za, ↓Zk, ↓Zr, ↓Ze, ↓Zj, ↓Zs, ↓Zg, ↓Zi, ↓Zf, ↓Zc, ↓Zb, ↓vdn, vup, Zl, Zh, Zm, Zo, Zn, List.map_cons, List.map_nil, cond_true, cond_false, aop, Zv, Zq, Zp, ev, sput, Zt, Zz, Yb, unK, Zd, Zw, Nat.reduceBEq, Nat.reduceAdd, Int.reduceBEq, Int.reduceBNe, Int.reduceLT, Zu, Ya, tup, tyf])
    clear hN9
    try clear N9
    refine Zy fun N10 hN10 => ?_
    simp (maxSteps := 2000000) only [s80, ↓Za, ↓Zk, ↓Zr, ↓Ze, ↓Zj, ↓Zs, ↓Zg, ↓Zi, ↓Zf, ↓Zc, ↓Zb, ↓vdn, vup, Zl, Zh, Zm, Zo, Zn, List.map_cons, List.map_nil, cond_true, cond_false, aop, Zv, Zq, Zp, ev, sput, Zt, Zz, Yb, unK, Zd, Zw, Nat.reduceBEq, Nat.reduceAdd, Int.reduceBEq, Int.reduceBNe, Int.reduceLT, Zu, Ya, tup, tyf]
    refine hQ2 _ _ _ (hQ _ _ _ ?_)
    simp (maxSteps := 2000000) only [s80, ↓Za, ↓Zk, ↓Zr, ↓Ze, ↓Zj, ↓Zs, ↓Zg, ↓Zi, ↓Zf, ↓Zc, ↓Zb, ↓vdn, vup, Zl, Zh, Zm, Zo, Zn, List.map_cons, List.map_nil, cond_true, cond_false, aop, Zv, Zq, Zp, ev, sput, Zt, Zz, Yb, unK, Zd, Zw, Nat.reduceBEq, Nat.reduceAdd, Int.reduceBEq, Int.reduceBNe, Int.reduceLT, Zu, Ya, tup, tyf, if_true]
    refine hZ [(0, u), (1, v), (4, .bool false), (5, Zx xs.length), (6, Zx (pSum xs xs.length)), (46, .bool false)] _ _ ?_ (by simp (maxSteps := 2000000) only [↓Za, ↓Zk, ↓Zr, ↓Ze, ↓Zj, ↓Zs, ↓Zg, ↓Zi, ↓Zf, ↓Zc, ↓Zb, ↓vdn, vup, Zl, Zh, Zm, Zo, Zn, List.map_cons, List.map_nil, cond_true, cond_false, aop, Zv, Zq, Zp, ev, sput, Zt, Zz, Yb, unK, Zd, Zw, Nat.reduceBEq, Nat.reduceAdd, Int.reduceBEq, Int.reduceBNe, Int.reduceLT, Zu, Ya, tup, tyf])
    clear hZ
    try clear Z
    have hs : (pSum xs xs.length == 12) = raceB xs ys := by
      by_cases h12 : pSum xs xs.length = 12
      · rw [raceB_yes ⟨by omega, hl, fun i hi => ⟨d1 i hi, d2 i hi⟩, fun i hi => ⟨d3 i hi, d4 i hi⟩, h12⟩, h12]; rfl
      · rw [raceB_no fun r => h12 r.sum]; simpa using h12
    refine Yd ?_
    simp (maxSteps := 2000000) only [s80, ↓Za, ↓Zk, ↓Zr, ↓Ze, ↓Zj, ↓Zs, ↓Zg, ↓Zi, ↓Zf, ↓Zc, ↓Zb, ↓vdn, vup, Zl, Zh, Zm, Zo, Zn, List.map_cons, List.map_nil, cond_true, cond_false, aop, Zv, Zq, Zp, ev, sput, Zt, Zz, Yb, unK, Zd, Zw, Nat.reduceBEq, Nat.reduceAdd, Int.reduceBEq, Int.reduceBNe, Int.reduceLT, Zu, Ya, tup, tyf, hs]

-- stakings
def stB (ps : List (Int × Int)) : Bool := decide (Xt ps ≠ 0) && ((ps.all fun p => decide (p.1 ≤ p.2)) && decide (Xo (fq ps) ps.length ≤ 1))
theorem st_of {ps : List (Int × Int)} (h : stB ps = true) : Chn ps ∧ Xo (fq ps) ps.length ≤ 1 := by
  simp only [stB, Bool.and_eq_true, decide_eq_true_eq, List.all_eq_true] at h
  exact ⟨⟨h.1, h.2.1⟩, h.2.2⟩
end Go.Proofs.Try.Am

namespace Go.Proofs.Try.Am
open Go.Am Bq
set_option maxRecDepth 100000
set_option maxHeartbeats 4000000

theorem s81_callW [Tabs Try.prog] {args : List Value} {h : Yc} {Q : Value → Yc → Prop} (hsz : args.length ≤ 16) (hk : AWS Try.prog 16 s81 (Zu Try.prog [.tmp 2] Q) (Zp 0 args) h) : ACall Try.prog 81 args h Q :=
  Yv Try.func81 rfl (enters_of Try.func81 (by kernel_rfl) rfl) rfl rfl (by decide) s81_strip s81_ok hsz hk
theorem isstake_call [Tabs prog] {h : Yc} {v : Value} {ps : List (Int × Int)} (hv : PairSl h v ps) (hl : ps.length ≤ 62) (hx : InR ps) : Xi prog 81 [v] h (.bool (stB ps)) := by
  refine s81_callW (by simp) ?_
  simp only [s81]
  refine Zy fun N1 hN1 => ?_
  simp (maxSteps := 2000000) only [s81, ↓Za, ↓Zk, ↓Zr, ↓Ze, ↓Zj, ↓Zs, ↓Zg, ↓Zi, ↓Zf, ↓Zc, ↓Zb, ↓vdn, vup, Zl, Zh, Zm, Zo, Zn, List.map_cons, List.map_nil, cond_true, cond_false, aop, Zv, Zq, Zp, ev, sput, Zt, Zz, Yb, unK, Zd, Zw, Nat.reduceBEq, Nat.reduceAdd, Int.reduceBEq, Int.reduceBNe, Int.reduceLT, Zu, Ya, tup, tyf]
  refine hN1 [(0, v), (2, .bool false)] _ _ ?_ (by simp (maxSteps := 2000000) only [↓Za, ↓Zk, ↓Zr, ↓Ze, ↓Zj, ↓Zs, ↓Zg, ↓Zi, ↓Zf, ↓Zc, ↓Zb, ↓vdn, vup, Zl, Zh, Zm, Zo, Zn, List.map_cons, List.map_nil, cond_true, cond_false, aop, Zv, Zq, Zp, ev, sput, Zt, Zz, Yb, unK, Zd, Zw, Nat.reduceBEq, Nat.reduceAdd, Int.reduceBEq, Int.reduceBNe, Int.reduceLT, Zu, Ya, tup, tyf])
  clear hN1
  try clear N1
  have cc := common_call (h := h) hv (by omega) hx
  obtain ⟨C, hC⟩ : ∃ C, (decide (Xt ps ≠ 0) && ps.all fun p => decide (p.1 ≤ p.2)) = C := ⟨_, rfl⟩
  rw [hC] at cc
  have st : stB ps = (C && decide (Xo (fq ps) ps.length ≤ 1)) := by rw [← hC, stB, Bool.and_assoc]
  refine Yd ?_
  simp only [q81_1]
  refine aw_cut fun N hN => ?_
  refine Xg [(1, 1), (3, 1), (9, 1), (10, 1)] (by kernel_rfl) (by kernel_rfl) (by kernel_rfl) (by kernel_rfl) ?_
  refine dops_cut 2 rfl fun N1 hN1 => ?_
  simp (maxSteps := 2000000) only [s81, ↓Za, ↓Zk, ↓Zr, ↓Ze, ↓Zj, ↓Zs, ↓Zg, ↓Zi, ↓Zf, ↓Zc, ↓Zb, ↓vdn, vup, Zl, Zh, Zm, Zo, Zn, List.map_cons, List.map_nil, cond_true, cond_false, aop, Zv, Zq, Zp, ev, sput, Zt, Zz, Yb, unK, Zd, Zw, Nat.reduceBEq, Nat.reduceAdd, Int.reduceBEq, Int.reduceBNe, Int.reduceLT, Zu, Ya, tup, tyf, List.take_succ_cons, List.take_zero, Yx, List.nil_append, List.append_nil, List.toList_toArray, List.cons_append]
  refine ⟨_, _, cc, rfl, ?_⟩
  refine hN1 _ _ ?_
  clear hN1 N1
  cases C with
  | false =>
    simp (maxSteps := 2000000) only [s81, ↓Za, ↓Zk, ↓Zr, ↓Ze, ↓Zj, ↓Zs, ↓Zg, ↓Zi, ↓Zf, ↓Zc, ↓Zb, ↓vdn, vup, Zl, Zh, Zm, Zo, Zn, List.map_cons, List.map_nil, cond_true, cond_false, aop, Zv, Zq, Zp, ev, sput, Zt, Zz, Yb, unK, Zd, Zw, Nat.reduceBEq, Nat.reduceAdd, Int.reduceBEq, Int.reduceBNe, Int.reduceLT, Zu, Ya, tup, tyf, List.drop_succ_cons, List.drop_zero]
    refine hN _ _ ?_
    simp (maxSteps := 2000000) only [s81, ↓Za, ↓Zk, ↓Zr, ↓Ze, ↓Zj, ↓Zs, ↓Zg, ↓Zi, ↓Zf, ↓Zc, ↓Zb, ↓vdn, vup, Zl, Zh, Zm, Zo, Zn, List.map_cons, List.map_nil, cond_true, cond_false, aop, Zv, Zq, Zp, ev, sput, Zt, Zz, Yb, unK, Zd, Zw, Nat.reduceBEq, Nat.reduceAdd, Int.reduceBEq, Int.reduceBNe, Int.reduceLT, Zu, Ya, tup, tyf, st, Bool.false_and]
  | true =>
    simp only [Bool.and_eq_true, decide_eq_true_eq, List.all_eq_true] at hC
    have c : Chn ps := ⟨hC.1, hC.2⟩
    have ofc := of_call (h := h) (evt := 2 ^ ps.length - 1) (N := Xt ps) hv (by omega) c.vld (by have := pow_le (show ps.length ≤ 62 by omega); omega) (Nat.pos_of_ne_zero c.m) (by have := (mult_spec c.m).2.2; omega) (fun k hk => c.unit hk)
    rw [inEv_all] at ofc
    have r := partTo_rp c (2 ^ ps.length - 1) ps.length (Nat.le_refl _)
    have pb := Vg c (2 ^ ps.length - 1) ps.length (Nat.le_refl _)
    rw [inEv_all] at r
    obtain ⟨q, hq⟩ : ∃ q, Xo (fq ps) ps.length = q := ⟨_, rfl⟩
    rw [hq] at ofc r st
    have one : Rp (Xt ps) (Xt ps : Int) ((1 : Int) : Rat) := ⟨Nat.pos_of_ne_zero c.m, by rw [show (((1 : Int)) : Rat) = 1 from rfl, Rat.one_mul, Rat.intCast_natCast]⟩
    have hm := (mult_spec c.m).2.2
    have hb2 := Nat.mul_le_mul hl hm
    have hb3 : ((ps.length * Xt ps : Nat) : Int) ≤ 620000000000 := by omega
    rw [Int.natCast_mul] at hb3
    have lc := less_call (h := h) one r (by omega) (by omega)
    have hle : decide (q ≤ 1) = !decide (((1 : Int) : Rat) < q) := by
      rw [show (((1 : Int)) : Rat) = 1 from rfl, Bool.eq_iff_iff, Bool.not_eq_true', decide_eq_true_eq, decide_eq_false_iff_not, Rat.not_lt]
    rw [hle] at st
    have wc : Xi prog 70 [Zx 1] h (qV ((1 : Int) : Rat)) := whole_call
    obtain ⟨on, hon⟩ : ∃ on : Rat, ((1 : Int) : Rat) = on := ⟨_, rfl⟩
    rw [hon] at lc wc st
    refine dops_cut 2 rfl fun N1 hN1 => ?_
    simp (maxSteps := 2000000) only [s81, ↓Za, ↓Zk, ↓Zr, ↓Ze, ↓Zj, ↓Zs, ↓Zg, ↓Zi, ↓Zf, ↓Zc, ↓Zb, ↓vdn, vup, Zl, Zh, Zm, Zo, Zn, List.map_cons, List.map_nil, cond_true, cond_false, aop, Zv, Zq, Zp, ev, sput, Zt, Zz, Yb, unK, Zd, Zw, Nat.reduceBEq, Nat.reduceAdd, Int.reduceBEq, Int.reduceBNe, Int.reduceLT, Zu, Ya, tup, tyf, List.drop_succ_cons, List.drop_zero, List.take_succ_cons, List.take_zero, Yx, List.nil_append, List.append_nil, List.toList_toArray, List.cons_append]
    refine ⟨_, _, wc, rfl, ?_⟩
    refine hN1 _ _ ?_
    clear hN1 N1
    refine dops_cut 6 rfl fun N1 hN1 => ?_
    simp (maxSteps := 2000000) only [s81, ↓Za, ↓Zk, ↓Zr, ↓Ze, ↓Zj, ↓Zs, ↓Zg, ↓Zi, ↓Zf, ↓Zc, ↓Zb, ↓vdn, vup, Zl, Zh, Zm, Zo, Zn, List.map_cons, List.map_nil, cond_true, cond_false, aop, Zv, Zq, Zp, ev, sput, Zt, Zz, Yb, unK, Zd, Zw, Nat.reduceBEq, Nat.reduceAdd, Int.reduceBEq, Int.reduceBNe, Int.reduceLT, Zu, Ya, tup, tyf, List.drop_succ_cons, List.drop_zero, List.take_succ_cons, List.take_zero, hv.len, shl1 (show ps.length ≤ 62 by omega), all_worlds (show ps.length ≤ 62 by omega), Int.natCast_nonneg, Yx, List.nil_append, List.append_nil, List.toList_toArray, List.cons_append]
    refine ⟨_, _, ofc, rfl, ?_⟩
    refine hN1 _ _ ?_
    clear hN1 N1
    refine dops_cut 1 rfl fun N1 hN1 => ?_
    simp (maxSteps := 2000000) only [s81, ↓Za, ↓Zk, ↓Zr, ↓Ze, ↓Zj, ↓Zs, ↓Zg, ↓Zi, ↓Zf, ↓Zc, ↓Zb, ↓vdn, vup, Zl, Zh, Zm, Zo, Zn, List.map_cons, List.map_nil, cond_true, cond_false, aop, Zv, Zq, Zp, ev, sput, Zt, Zz, Yb, unK, Zd, Zw, Nat.reduceBEq, Nat.reduceAdd, Int.reduceBEq, Int.reduceBNe, Int.reduceLT, Zu, Ya, tup, tyf, List.drop_succ_cons, List.drop_zero, List.take_succ_cons, List.take_zero, Yx, List.nil_append, List.append_nil, List.toList_toArray, List.cons_append]
    refine ⟨_, _, lc, rfl, ?_⟩
    refine hN1 _ _ ?_
    clear hN1 N1
    simp (maxSteps := 2000000) only [s81, ↓Za, ↓Zk, ↓Zr, ↓Ze, ↓Zj, ↓Zs, ↓Zg, ↓Zi, ↓Zf, ↓Zc, ↓Zb, ↓vdn, vup, Zl, Zh, Zm, Zo, Zn, List.map_cons, List.map_nil, cond_true, cond_false, aop, Zv, Zq, Zp, ev, sput, Zt, Zz, Yb, unK, Zd, Zw, Nat.reduceBEq, Nat.reduceAdd, Int.reduceBEq, Int.reduceBNe, Int.reduceLT, Zu, Ya, tup, tyf, List.drop_succ_cons, List.drop_zero]
    refine hN _ _ ?_
    simp (maxSteps := 2000000) only [s81, ↓Za, ↓Zk, ↓Zr, ↓Ze, ↓Zj, ↓Zs, ↓Zg, ↓Zi, ↓Zf, ↓Zc, ↓Zb, ↓vdn, vup, Zl, Zh, Zm, Zo, Zn, List.map_cons, List.map_nil, cond_true, cond_false, aop, Zv, Zq, Zp, ev, sput, Zt, Zz, Yb, unK, Zd, Zw, Nat.reduceBEq, Nat.reduceAdd, Int.reduceBEq, Int.reduceBNe, Int.reduceLT, Zu, Ya, tup, tyf, st, Bool.true_and]

theorem s48_callW [Tabs Try.prog] {args : List Value} {h : Yc} {Q : Value → Yc → Prop} (hsz : args.length ≤ 24) (hk : AWS Try.prog 24 s48 (Zu Try.prog [.tmp 4] Q) (Zp 0 args) h) : ACall Try.prog 48 args h Q :=
  Yv Try.func48 rfl (enters_of Try.func48 (by kernel_rfl) rfl) rfl rfl (by decide) s48_strip s48_ok hsz hk
theorem staking_call [Tabs prog] {h : Yc} {n : Nat} {v : Value} {ps : List (Int × Int)} (hv : PairSl h v ps) (hn : n ≤ 62) (hl : ps.length < 9223372036854775808) (hx : InR ps) : Xi prog 48 [Zx (n : Nat), v] h (.bool (decide (ps.length = n) && stB ps)) := by
  refine s48_callW (by simp) ?_
  simp only [s48]
  refine Zy fun N2 hN2 => ?_
  simp (maxSteps := 2000000) only [s48, ↓Za, ↓Zk, ↓Zr, ↓Ze, ↓Zj, ↓Zs, ↓Zg, ↓Zi, ↓Zf, ↓Zc, ↓Zb, ↓vdn, vup, Zl, Zh, Zm, Zo, Zn, List.map_cons, List.map_nil, cond_true, cond_false, aop, Zv, Zq, Zp, ev, sput, Zt, Zz, Yb, unK, Zd, Zw, Nat.reduceBEq, Nat.reduceAdd, Int.reduceBEq, Int.reduceBNe, Int.reduceLT, Zu, Ya, tup, tyf]
  refine hN2 [(0, Zx (n : Nat)), (1, v), (4, .bool false)] _ _ ?_ (by simp (maxSteps := 2000000) only [↓Za, ↓Zk, ↓Zr, ↓Ze, ↓Zj, ↓Zs, ↓Zg, ↓Zi, ↓Zf, ↓Zc, ↓Zb, ↓vdn, vup, Zl, Zh, Zm, Zo, Zn, List.map_cons, List.map_nil, cond_true, cond_false, aop, Zv, Zq, Zp, ev, sput, Zt, Zz, Yb, unK, Zd, Zw, Nat.reduceBEq, Nat.reduceAdd, Int.reduceBEq, Int.reduceBNe, Int.reduceLT, Zu, Ya, tup, tyf])
  clear hN2
  try clear N2
  refine Yd ?_
  simp only [q48_1]
  refine aw_cut fun N hN => ?_
  by_cases hln : ps.length = n
  case neg =>
    have e : (((ps.length : Nat) : Int) == ((n : Nat) : Int)) = false := by
      have : ¬ ((ps.length : Nat) : Int) = ((n : Nat) : Int) := by omega
      simpa using this
    simp (maxSteps := 2000000) only [s48, ↓Za, ↓Zk, ↓Zr, ↓Ze, ↓Zj, ↓Zs, ↓Zg, ↓Zi, ↓Zf, ↓Zc, ↓Zb, ↓vdn, vup, Zl, Zh, Zm, Zo, Zn, List.map_cons, List.map_nil, cond_true, cond_false, aop, Zv, Zq, Zp, ev, sput, Zt, Zz, Yb, unK, Zd, Zw, Nat.reduceBEq, Nat.reduceAdd, Int.reduceBEq, Int.reduceBNe, Int.reduceLT, Zu, Ya, tup, tyf, hv.len, e]
    refine hN _ _ ?_
    have hd : decide (ps.length = n) = false := decide_eq_false_iff_not.2 hln
    simp (maxSteps := 2000000) only [s48, ↓Za, ↓Zk, ↓Zr, ↓Ze, ↓Zj, ↓Zs, ↓Zg, ↓Zi, ↓Zf, ↓Zc, ↓Zb, ↓vdn, vup, Zl, Zh, Zm, Zo, Zn, List.map_cons, List.map_nil, cond_true, cond_false, aop, Zv, Zq, Zp, ev, sput, Zt, Zz, Yb, unK, Zd, Zw, Nat.reduceBEq, Nat.reduceAdd, Int.reduceBEq, Int.reduceBNe, Int.reduceLT, Zu, Ya, tup, tyf, hd, Bool.false_and]
  subst hln
  have e : (((ps.length : Nat) : Int) == ((ps.length : Nat) : Int)) = true := by simp
  have hd : decide (ps.length = ps.length) = true := by simp
  have cc := chances_call (h := h) (n := (ps.length : Nat)) hv hl hx
  cases hC : chances ps.length ps with
  | false =>
    rw [hC] at cc
    have st : stB ps = false := by
      have : (decide (Xt ps ≠ 0) && ps.all fun p => decide (p.1 ≤ p.2)) = false := by simpa [chances] using hC
      rw [stB, ← Bool.and_assoc, this, Bool.false_and]
    refine Wu 8 fun N1 hN1 => ?_
    simp (maxSteps := 2000000) only [s48, ↓Za, ↓Zk, ↓Zr, ↓Ze, ↓Zj, ↓Zs, ↓Zg, ↓Zi, ↓Zf, ↓Zc, ↓Zb, ↓vdn, vup, Zl, Zh, Zm, Zo, Zn, List.map_cons, List.map_nil, cond_true, cond_false, aop, Zv, Zq, Zp, ev, sput, Zt, Zz, Yb, unK, Zd, Zw, Nat.reduceBEq, Nat.reduceAdd, Int.reduceBEq, Int.reduceBNe, Int.reduceLT, Zu, Ya, tup, tyf, List.take_succ_cons, List.take_zero, hv.len, e, Yx, List.nil_append, List.append_nil, List.toList_toArray, List.cons_append]
    refine cc.mono ?_
    rintro _ h ⟨rfl, rfl⟩
    refine hN1 _ _ ?_
    clear hN1 N1
    simp (maxSteps := 2000000) only [s48, ↓Za, ↓Zk, ↓Zr, ↓Ze, ↓Zj, ↓Zs, ↓Zg, ↓Zi, ↓Zf, ↓Zc, ↓Zb, ↓vdn, vup, Zl, Zh, Zm, Zo, Zn, List.map_cons, List.map_nil, cond_true, cond_false, aop, Zv, Zq, Zp, ev, sput, Zt, Zz, Yb, unK, Zd, Zw, Nat.reduceBEq, Nat.reduceAdd, Int.reduceBEq, Int.reduceBNe, Int.reduceLT, Zu, Ya, tup, tyf, List.drop_succ_cons, List.drop_zero]
    refine hN _ _ ?_
    simp (maxSteps := 2000000) only [s48, ↓Za, ↓Zk, ↓Zr, ↓Ze, ↓Zj, ↓Zs, ↓Zg, ↓Zi, ↓Zf, ↓Zc, ↓Zb, ↓vdn, vup, Zl, Zh, Zm, Zo, Zn, List.map_cons, List.map_nil, cond_true, cond_false, aop, Zv, Zq, Zp, ev, sput, Zt, Zz, Yb, unK, Zd, Zw, Nat.reduceBEq, Nat.reduceAdd, Int.reduceBEq, Int.reduceBNe, Int.reduceLT, Zu, Ya, tup, tyf, st, Bool.and_false]
  | true =>
    rw [hC] at cc
    obtain ⟨c, _⟩ := chances_chn hC
    have pc := part_call (h := h) (evt := 2 ^ ps.length - 1) hv (by omega) hx c (by have := pow_le hn; omega)
    have mc := mult_call (h := h) hv hl hx
    have r := partTo_rp c (2 ^ ps.length - 1) ps.length (Nat.le_refl _)
    rw [inEv_all] at r
    obtain ⟨P, hP⟩ : ∃ P, Xs (Xt ps) ps (2 ^ ps.length - 1) ps.length = P := ⟨_, rfl⟩
    rw [hP] at pc r
    have one : Rp (Xt ps) (Xt ps : Int) 1 := ⟨Nat.pos_of_ne_zero c.m, by rw [Rat.one_mul, Rat.intCast_natCast]⟩
    have st : stB ps = decide (P ≤ ((Xt ps : Nat) : Int)) := by
      have h1 : (ps.all fun p => decide (p.1 ≤ p.2)) = true := by rw [List.all_eq_true]; exact fun p hp => by simpa using c.le p hp
      rw [stB, h1, decide_eq_true c.m, Bool.true_and, Bool.true_and, decide_eq_decide, ← Rat.not_lt, one.lt r]
      omega
    refine Wu 8 fun N1 hN1 => ?_
    simp (maxSteps := 2000000) only [s48, ↓Za, ↓Zk, ↓Zr, ↓Ze, ↓Zj, ↓Zs, ↓Zg, ↓Zi, ↓Zf, ↓Zc, ↓Zb, ↓vdn, vup, Zl, Zh, Zm, Zo, Zn, List.map_cons, List.map_nil, cond_true, cond_false, aop, Zv, Zq, Zp, ev, sput, Zt, Zz, Yb, unK, Zd, Zw, Nat.reduceBEq, Nat.reduceAdd, Int.reduceBEq, Int.reduceBNe, Int.reduceLT, Zu, Ya, tup, tyf, List.take_succ_cons, List.take_zero, hv.len, e, Yx, List.nil_append, List.append_nil, List.toList_toArray, List.cons_append]
    refine cc.mono ?_
    rintro _ h ⟨rfl, rfl⟩
    refine hN1 _ _ ?_
    clear hN1 N1
    refine Wu 7 fun N1 hN1 => ?_
    simp (maxSteps := 2000000) only [s48, ↓Za, ↓Zk, ↓Zr, ↓Ze, ↓Zj, ↓Zs, ↓Zg, ↓Zi, ↓Zf, ↓Zc, ↓Zb, ↓vdn, vup, Zl, Zh, Zm, Zo, Zn, List.map_cons, List.map_nil, cond_true, cond_false, aop, Zv, Zq, Zp, ev, sput, Zt, Zz, Yb, unK, Zd, Zw, Nat.reduceBEq, Nat.reduceAdd, Int.reduceBEq, Int.reduceBNe, Int.reduceLT, Zu, Ya, tup, tyf, List.drop_succ_cons, List.drop_zero, List.take_succ_cons, List.take_zero, shl1 hn, all_worlds hn, Int.natCast_nonneg, Yx, List.nil_append, List.append_nil, List.toList_toArray, List.cons_append]
    refine pc.mono ?_
    rintro _ h ⟨rfl, rfl⟩
    refine hN1 _ _ ?_
    clear hN1 N1
    refine Wu 2 fun N1 hN1 => ?_
    simp (maxSteps := 2000000) only [s48, ↓Za, ↓Zk, ↓Zr, ↓Ze, ↓Zj, ↓Zs, ↓Zg, ↓Zi, ↓Zf, ↓Zc, ↓Zb, ↓vdn, vup, Zl, Zh, Zm, Zo, Zn, List.map_cons, List.map_nil, cond_true, cond_false, aop, Zv, Zq, Zp, ev, sput, Zt, Zz, Yb, unK, Zd, Zw, Nat.reduceBEq, Nat.reduceAdd, Int.reduceBEq, Int.reduceBNe, Int.reduceLT, Zu, Ya, tup, tyf, List.drop_succ_cons, List.drop_zero, List.take_succ_cons, List.take_zero, Yx, List.nil_append, List.append_nil, List.toList_toArray, List.cons_append]
    refine mc.mono ?_
    rintro _ h ⟨rfl, rfl⟩
    refine hN1 _ _ ?_
    clear hN1 N1
    simp (maxSteps := 2000000) only [s48, ↓Za, ↓Zk, ↓Zr, ↓Ze, ↓Zj, ↓Zs, ↓Zg, ↓Zi, ↓Zf, ↓Zc, ↓Zb, ↓vdn, vup, Zl, Zh, Zm, Zo, Zn, List.map_cons, List.map_nil, cond_true, cond_false, aop, Zv, Zq, Zp, ev, sput, Zt, Zz, Yb, unK, Zd, Zw, Nat.reduceBEq, Nat.reduceAdd, Int.reduceBEq, Int.reduceBNe, Int.reduceLT, Zu, Ya, tup, tyf, List.drop_succ_cons, List.drop_zero]
    refine hN _ _ ?_
    simp (maxSteps := 2000000) only [s48, ↓Za, ↓Zk, ↓Zr, ↓Ze, ↓Zj, ↓Zs, ↓Zg, ↓Zi, ↓Zf, ↓Zc, ↓Zb, ↓vdn, vup, Zl, Zh, Zm, Zo, Zn, List.map_cons, List.map_nil, cond_true, cond_false, aop, Zv, Zq, Zp, ev, sput, Zt, Zz, Yb, unK, Zd, Zw, Nat.reduceBEq, Nat.reduceAdd, Int.reduceBEq, Int.reduceBNe, Int.reduceLT, Zu, Ya, tup, tyf, st, hd, Bool.true_and]
end Go.Proofs.Try.Am

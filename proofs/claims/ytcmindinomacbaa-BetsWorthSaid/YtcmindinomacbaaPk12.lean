/-
  bets: copies of slices; slices held against each other.
  bets: Sound; that the program is awake.
  bets: law Worth.
-/
import Derived.Test.YtcmindinomacbaaPk6
import Derived.Test.YtcmindinomacbaaPk7
import Derived.Test.YtcmindinomacbaaPk11
import Derived.Test.YtcmindinomacbaaPk9
set_option linter.all false
namespace Go.Proofs.Try.Am
open Go.Am
set_option maxRecDepth 100000
set_option maxHeartbeats 1000000

theorem cloneF_call [Tabs prog] {h : Yc} {v : Value} {ps : List (Int × Int)} (hv : PairSl h v ps) (hl : ps.length < 1099511627776) : ACall prog 57 [v] h fun r h' => PairSl h' r ps ∧ Ext (fun _ => False) h h' := by
  refine s57_call (by simp) ?_
  have hv' := hv
  rcases hv with ⟨rfl, rfl⟩ | ⟨b, o, sp, cap, c, e, ro, rfl, hc, hb, hx⟩
  · simp (maxSteps := 2000000) only [s57, ↓Za, ↓Zk, ↓Zr, ↓Ze, ↓Zj, ↓Zs, ↓Zg, ↓Zi, ↓Zf, ↓Zc, ↓Zb, ↓vdn, vup, Zl, Zh, Zm, Zo, Zn, List.map_cons, List.map_nil, cond_true, cond_false, aop, Zv, Zq, Zp, ev, sput, Zt, Zz, Yb, unK, Zd, Zw, Nat.reduceBEq, Nat.reduceAdd, Int.reduceBEq, Int.reduceBNe, Int.reduceLT, Zu, Ya, tup, tyf, Option.isSome_some]
    exact ⟨.inl ⟨rfl, rfl⟩, Ext.refl _ _⟩
  · simp (maxSteps := 2000000) only [s57, ↓Za, ↓Zk, ↓Zr, ↓Ze, ↓Zj, ↓Zs, ↓Zg, ↓Zi, ↓Zf, ↓Zc, ↓Zb, ↓vdn, vup, Zl, Zh, Zm, Zo, Zn, List.map_cons, List.map_nil, cond_true, cond_false, aop, Zv, Zq, Zp, ev, sput, Zt, Zz, Yb, unK, Zd, Zw, Nat.reduceBEq, Nat.reduceAdd, Int.reduceBEq, Int.reduceBNe, Int.reduceLT, Zu, Ya, tup, tyf, Option.isSome_some]
    simp only [Yt, el_47, Xp, Wh, reps, fillL, mkb, Xh]
    refine And.intro rfl (And.intro (by decide) (And.intro (Nat.zero_le _) ?_))
    refine (hv'.grow [.ints [] 26 false]).copy app_47_47 hl (by rw [List.getElem?_append_right (Nat.le_refl _)]; simp) ?_
    intro r g hr
    exact ⟨hr, by rw [List.append_assoc]; exact Ext.app _ _ _⟩
theorem min8 (n : Nat) : (if (8 : Int) < n then 8 else (n : Int)) = ((min n 8 : Nat) : Int) := by split <;> omega
theorem take_min {α : Type} (l : List α) (k : Nat) : l.take (min l.length k) = l.take k := by
  by_cases h : l.length ≤ k
  · rw [Nat.min_eq_left h, List.take_length, List.take_of_length_le h]
  · rw [Nat.min_eq_right (by omega)]
theorem fracs_call [Tabs prog] {h : Yc} {v : Value} {ps : List (Int × Int)} (hv : PairSl h v ps) : ACall prog 32 [v] h fun r h' => PairSl h' r (ps.take 8) ∧ Ext (fun _ => False) h h' := by
  refine s32_call (by simp) ?_
  simp (maxSteps := 2000000) only [s32, ↓Za, ↓Zk, ↓Zr, ↓Ze, ↓Zj, ↓Zs, ↓Zg, ↓Zi, ↓Zf, ↓Zc, ↓Zb, ↓vdn, vup, Zl, Zh, Zm, Zo, Zn, List.map_cons, List.map_nil, cond_true, cond_false, aop, Zv, Zq, Zp, ev, sput, Zt, Zz, Yb, unK, Zd, Zw, Nat.reduceBEq, Nat.reduceAdd, Int.reduceBEq, Int.reduceBNe, Int.reduceLT, Zu, Ya, tup, tyf, hv.len, mmK, Bool.false_eq_true, if_false, gt_iff_lt, min8, Option.map_none, Option.map_some]
  refine hv.pre el_47 Wh (Nat.min_le_left _ _) ?_
  intro v' hv'
  rw [take_min] at hv'
  simp (maxSteps := 2000000) only [↓Za, ↓Zk, ↓Zr, ↓Ze, ↓Zj, ↓Zs, ↓Zg, ↓Zi, ↓Zf, ↓Zc, ↓Zb, ↓vdn, vup, Zl, Zh, Zm, Zo, Zn, List.map_cons, List.map_nil, cond_true, cond_false, aop, Zv, Zq, Zp, ev, sput, Zt, Zz, Yb, unK, Zd, Zw, Nat.reduceBEq, Nat.reduceAdd, Int.reduceBEq, Int.reduceBNe, Int.reduceLT, Zu, Ya, tup, tyf, Yx, List.nil_append, List.append_nil]
  exact cloneF_call hv' (by simp; omega)

theorem clone_call [Tabs prog] {h : Yc} {v : Value} {xs : List Int} (hv : IntSl h v xs) (hl : xs.length < 1099511627776) : ACall prog 82 [v] h fun r h' => IntSl h' r xs ∧ Ext (fun _ => False) h h' := by
  refine s82_call (by simp) ?_
  have hv' := hv
  rcases hv with ⟨rfl, rfl⟩ | ⟨b, o, sp, cap, c, e, ro, rfl, hc, hb, hx⟩
  · simp (maxSteps := 2000000) only [s82, ↓Za, ↓Zk, ↓Zr, ↓Ze, ↓Zj, ↓Zs, ↓Zg, ↓Zi, ↓Zf, ↓Zc, ↓Zb, ↓vdn, vup, Zl, Zh, Zm, Zo, Zn, List.map_cons, List.map_nil, cond_true, cond_false, aop, Zv, Zq, Zp, ev, sput, Zt, Zz, Yb, unK, Zd, Zw, Nat.reduceBEq, Nat.reduceAdd, Int.reduceBEq, Int.reduceBNe, Int.reduceLT, Zu, Ya, tup, tyf, Option.isSome_some]
    exact ⟨.inl ⟨rfl, rfl⟩, Ext.refl _ _⟩
  · simp (maxSteps := 2000000) only [s82, ↓Za, ↓Zk, ↓Zr, ↓Ze, ↓Zj, ↓Zs, ↓Zg, ↓Zi, ↓Zf, ↓Zc, ↓Zb, ↓vdn, vup, Zl, Zh, Zm, Zo, Zn, List.map_cons, List.map_nil, cond_true, cond_false, aop, Zv, Zq, Zp, ev, sput, Zt, Zz, Yb, unK, Zd, Zw, Nat.reduceBEq, Nat.reduceAdd, Int.reduceBEq, Int.reduceBNe, Int.reduceLT, Zu, Ya, tup, tyf, Option.isSome_some]
    simp only [Yt, el_38, zero_3, Vl, reps, fillL, mkb, Xh]
    refine And.intro rfl (And.intro Nat.zero_lt_one (And.intro (Nat.zero_le _) ?_))
    refine (hv'.grow [.ints [] 3 false]).copy app_38_38 hl (by rw [List.getElem?_append_right (Nat.le_refl _)]; simp) ?_
    intro r g hr _
    exact ⟨hr, by rw [List.append_assoc]; exact Ext.app _ _ _⟩
theorem list_call [Tabs prog] {h : Yc} {v : Value} {xs : List Int} (hv : IntSl h v xs) : ACall prog 46 [v] h fun r h' => IntSl h' r (xs.take 8) ∧ Ext (fun _ => False) h h' := by
  refine s46_call (by simp) ?_
  simp (maxSteps := 2000000) only [s46, ↓Za, ↓Zk, ↓Zr, ↓Ze, ↓Zj, ↓Zs, ↓Zg, ↓Zi, ↓Zf, ↓Zc, ↓Zb, ↓vdn, vup, Zl, Zh, Zm, Zo, Zn, List.map_cons, List.map_nil, cond_true, cond_false, aop, Zv, Zq, Zp, ev, sput, Zt, Zz, Yb, unK, Zd, Zw, Nat.reduceBEq, Nat.reduceAdd, Int.reduceBEq, Int.reduceBNe, Int.reduceLT, Zu, Ya, tup, tyf, hv.len, mmK, Bool.false_eq_true, if_false, gt_iff_lt, min8, Option.map_none, Option.map_some]
  refine hv.pre el_38 Vl (Nat.min_le_left _ _) ?_
  intro v' hv'
  rw [take_min] at hv'
  simp (maxSteps := 2000000) only [↓Za, ↓Zk, ↓Zr, ↓Ze, ↓Zj, ↓Zs, ↓Zg, ↓Zi, ↓Zf, ↓Zc, ↓Zb, ↓vdn, vup, Zl, Zh, Zm, Zo, Zn, List.map_cons, List.map_nil, cond_true, cond_false, aop, Zv, Zq, Zp, ev, sput, Zt, Zz, Yb, unK, Zd, Zw, Nat.reduceBEq, Nat.reduceAdd, Int.reduceBEq, Int.reduceBNe, Int.reduceLT, Zu, Ya, tup, tyf, Yx, List.nil_append, List.append_nil]
  exact clone_call hv' (by simp; omega)

theorem pairs_eq {xs ys : List (Int × Int)} (hl : xs.length = ys.length) (k : Nat) (hk : k ≤ xs.length) (h : ∀ i, i < k → xs.getD i (0, 0) = ys.getD i (0, 0)) (hk2 : k = xs.length) : xs = ys := by
  subst hk2
  apply List.ext_getElem hl
  intro i h1 h2
  have := h i h1
  rwa [List.getD, List.getD, List.getElem?_eq_getElem h1, List.getElem?_eq_getElem h2] at this

theorem s35_callW [Tabs Try.prog] {args : List Value} {h : Yc} {Q : Value → Yc → Prop} (hsz : args.length ≤ 26) (hk : AWS Try.prog 26 s35 (Zu Try.prog [.tmp 4] Q) (Zp 0 args) h) : ACall Try.prog 35 args h Q :=
  Yv Try.func35 rfl (enters_of Try.func35 (by kernel_rfl) rfl) rfl rfl (by decide) s35_strip s35_ok hsz hk
theorem equalF_call [Tabs prog] {h : Yc} {u v : Value} {xs ys : List (Int × Int)} (hu : PairSl h u xs) (hv : PairSl h v ys) (hl : xs.length < 9223372036854775808) : Xi prog 35 [u, v] h (.bool (decide (xs = ys))) := by
  refine s35_callW (by simp) ?_
  simp only [s35]
  refine Zy fun N1 hN1 => ?_
  simp (maxSteps := 2000000) only [s35, ↓Za, ↓Zk, ↓Zr, ↓Ze, ↓Zj, ↓Zs, ↓Zg, ↓Zi, ↓Zf, ↓Zc, ↓Zb, ↓vdn, vup, Zl, Zh, Zm, Zo, Zn, List.map_cons, List.map_nil, cond_true, cond_false, aop, Zv, Zq, Zp, ev, sput, Zt, Zz, Yb, unK, Zd, Zw, Nat.reduceBEq, Nat.reduceAdd, Int.reduceBEq, Int.reduceBNe, Int.reduceLT, Zu, Ya, tup, tyf]
  refine hN1 [(0, u), (1, v), (4, .bool false)] _ _ ?_ (by simp (maxSteps := 2000000) only [↓Za, ↓Zk, ↓Zr, ↓Ze, ↓Zj, ↓Zs, ↓Zg, ↓Zi, ↓Zf, ↓Zc, ↓Zb, ↓vdn, vup, Zl, Zh, Zm, Zo, Zn, List.map_cons, List.map_nil, cond_true, cond_false, aop, Zv, Zq, Zp, ev, sput, Zt, Zz, Yb, unK, Zd, Zw, Nat.reduceBEq, Nat.reduceAdd, Int.reduceBEq, Int.reduceBNe, Int.reduceLT, Zu, Ya, tup, tyf])
  clear hN1
  try clear N1
  by_cases hn : xs.length = ys.length
  · have hne : (((xs.length : Nat) : Int) != ((ys.length : Nat) : Int)) = false := by simp [hn]
    refine Zy fun N2 hN2 => ?_
    simp (maxSteps := 2000000) only [s35, ↓Za, ↓Zk, ↓Zr, ↓Ze, ↓Zj, ↓Zs, ↓Zg, ↓Zi, ↓Zf, ↓Zc, ↓Zb, ↓vdn, vup, Zl, Zh, Zm, Zo, Zn, List.map_cons, List.map_nil, cond_true, cond_false, aop, Zv, Zq, Zp, ev, sput, Zt, Zz, Yb, unK, Zd, Zw, Nat.reduceBEq, Nat.reduceAdd, Int.reduceBEq, Int.reduceBNe, Int.reduceLT, Zu, Ya, tup, tyf, hu.len, hv.len, hne]
    refine hN2 [(0, u), (1, v), (4, .bool false)] _ _ ?_ (by simp (maxSteps := 2000000) only [↓Za, ↓Zk, ↓Zr, ↓Ze, ↓Zj, ↓Zs, ↓Zg, ↓Zi, ↓Zf, ↓Zc, ↓Zb, ↓vdn, vup, Zl, Zh, Zm, Zo, Zn, List.map_cons, List.map_nil, cond_true, cond_false, aop, Zv, Zq, Zp, ev, sput, Zt, Zz, Yb, unK, Zd, Zw, Nat.reduceBEq, Nat.reduceAdd, Int.reduceBEq, Int.reduceBNe, Int.reduceLT, Zu, Ya, tup, tyf])
    clear hN2
    try clear N2
    refine Ye fun Z hZ => ?_
    refine Zy fun N3 hN3 => ?_
    simp (maxSteps := 2000000) only [s35, ↓Za, ↓Zk, ↓Zr, ↓Ze, ↓Zj, ↓Zs, ↓Zg, ↓Zi, ↓Zf, ↓Zc, ↓Zb, ↓vdn, vup, Zl, Zh, Zm, Zo, Zn, List.map_cons, List.map_nil, cond_true, cond_false, aop, Zv, Zq, Zp, ev, sput, Zt, Zz, Yb, unK, Zd, Zw, Nat.reduceBEq, Nat.reduceAdd, Int.reduceBEq, Int.reduceBNe, Int.reduceLT, Zu, Ya, tup, tyf, hu.len]
    refine hN3 [(0, u), (1, v), (4, .bool false), (11, u), (12, Zx xs.length), (13, .int .i64 0)] _ _ ?_ (by simp (maxSteps := 2000000) only [↓Za, ↓Zk, ↓Zr, ↓Ze, ↓Zj, ↓Zs, ↓Zg, ↓Zi, ↓Zf, ↓Zc, ↓Zb, ↓vdn, vup, Zl, Zh, Zm, Zo, Zn, List.map_cons, List.map_nil, cond_true, cond_false, aop, Zv, Zq, Zp, ev, sput, Zt, Zz, Yb, unK, Zd, Zw, Nat.reduceBEq, Nat.reduceAdd, Int.reduceBEq, Int.reduceBNe, Int.reduceLT, Zu, Ya, tup, tyf])
    clear hN3
    try clear N3
    refine Yf ?_
    refine Yh fun Q hQ => ?_
    refine Yz (γ := Nat) (fun k => k ≤ xs.length ∧ ∀ i, i < k → xs.getD i (0, 0) = ys.getD i (0, 0))
      (fun k => ([(0, u), (1, v), (4, .bool false), (11, u), (12, Zx xs.length), (13, Zx (k : Nat))], h)) (fun k => xs.length - k) 0 ⟨Nat.zero_le _, fun i hi => by omega⟩ (by simp (maxSteps := 2000000) only [↓Za, ↓Zk, ↓Zr, ↓Ze, ↓Zj, ↓Zs, ↓Zg, ↓Zi, ↓Zf, ↓Zc, ↓Zb, ↓vdn, vup, Zl, Zh, Zm, Zo, Zn, List.map_cons, List.map_nil, cond_true, cond_false, aop, Zv, Zq, Zp, ev, sput, Zt, Zz, Yb, unK, Zd, Zw, Nat.reduceBEq, Nat.reduceAdd, Int.reduceBEq, Int.reduceBNe, Int.reduceLT, Zu, Ya, tup, tyf, Int.natCast_zero]) rfl ?_
    rintro k ⟨hk, hall⟩
    refine Yh fun Q2 hQ2 => ?_
    simp only [l35_0]
    by_cases hin : (k : Int) < xs.length
    · have hk' : k < xs.length := by omega
      have hky : k < ys.length := by omega
      refine Zy fun N4 hN4 => ?_
      simp (maxSteps := 2000000) only [s35, ↓Za, ↓Zk, ↓Zr, ↓Ze, ↓Zj, ↓Zs, ↓Zg, ↓Zi, ↓Zf, ↓Zc, ↓Zb, ↓vdn, vup, Zl, Zh, Zm, Zo, Zn, List.map_cons, List.map_nil, cond_true, cond_false, aop, Zv, Zq, Zp, ev, sput, Zt, Zz, Yb, unK, Zd, Zw, Nat.reduceBEq, Nat.reduceAdd, Int.reduceBEq, Int.reduceBNe, Int.reduceLT, Zu, Ya, tup, tyf, hin]
      refine hN4 [(0, u), (1, v), (4, .bool false), (11, u), (12, Zx xs.length), (13, Zx (k : Nat)), (14, .bool true)] _ _ ?_ (by simp (maxSteps := 2000000) only [↓Za, ↓Zk, ↓Zr, ↓Ze, ↓Zj, ↓Zs, ↓Zg, ↓Zi, ↓Zf, ↓Zc, ↓Zb, ↓vdn, vup, Zl, Zh, Zm, Zo, Zn, List.map_cons, List.map_nil, cond_true, cond_false, aop, Zv, Zq, Zp, ev, sput, Zt, Zz, Yb, unK, Zd, Zw, Nat.reduceBEq, Nat.reduceAdd, Int.reduceBEq, Int.reduceBNe, Int.reduceLT, Zu, Ya, tup, tyf])
      clear hN4
      try clear N4
      refine Zy fun N5 hN5 => ?_
      simp (maxSteps := 2000000) only [s35, ↓Za, ↓Zk, ↓Zr, ↓Ze, ↓Zj, ↓Zs, ↓Zg, ↓Zi, ↓Zf, ↓Zc, ↓Zb, ↓vdn, vup, Zl, Zh, Zm, Zo, Zn, List.map_cons, List.map_nil, cond_true, cond_false, aop, Zv, Zq, Zp, ev, sput, Zt, Zz, Yb, unK, Zd, Zw, Nat.reduceBEq, Nat.reduceAdd, Int.reduceBEq, Int.reduceBNe, Int.reduceLT, Zu, Ya, tup, tyf]
      refine hN5 [(0, u), (1, v), (4, .bool false), (11, u), (12, Zx xs.length), (13, Zx (k : Nat))] _ _ ?_ (by simp (maxSteps := 2000000) only [↓Za, ↓Zk, ↓Zr, ↓Ze, ↓Zj, ↓Zs, ↓Zg, ↓Zi, ↓Zf, ↓Zc, ↓Zb, ↓vdn, vup, Zl, Zh, Zm, Zo, Zn, List.map_cons, List.map_nil, cond_true, cond_false, aop, Zv, Zq, Zp, ev, sput, Zt, Zz, Yb, unK, Zd, Zw, Nat.reduceBEq, Nat.reduceAdd, Int.reduceBEq, Int.reduceBNe, Int.reduceLT, Zu, Ya, tup, tyf])
      clear hN5
      try clear N5
      refine Ye fun B hB => ?_
      refine Yf ?_
      refine Zy fun N6 hN6 => ?_
      simp (maxSteps := 2000000) only [s35, ↓Za, ↓Zk, ↓Zr, ↓Ze, ↓Zj, ↓Zs, ↓Zg, ↓Zi, ↓Zf, ↓Zc, ↓Zb, ↓vdn, vup, Zl, Zh, Zm, Zo, Zn, List.map_cons, List.map_nil, cond_true, cond_false, aop, Zv, Zq, Zp, ev, sput, Zt, Zz, Yb, unK, Zd, Zw, Nat.reduceBEq, Nat.reduceAdd, Int.reduceBEq, Int.reduceBNe, Int.reduceLT, Zu, Ya, tup, tyf]
      refine hN6 [(0, u), (1, v), (4, .bool false), (5, Zx (k : Nat)), (11, u), (12, Zx xs.length), (13, Zx (k : Nat))] _ _ ?_ (by simp (maxSteps := 2000000) only [↓Za, ↓Zk, ↓Zr, ↓Ze, ↓Zj, ↓Zs, ↓Zg, ↓Zi, ↓Zf, ↓Zc, ↓Zb, ↓vdn, vup, Zl, Zh, Zm, Zo, Zn, List.map_cons, List.map_nil, cond_true, cond_false, aop, Zv, Zq, Zp, ev, sput, Zt, Zz, Yb, unK, Zd, Zw, Nat.reduceBEq, Nat.reduceAdd, Int.reduceBEq, Int.reduceBNe, Int.reduceLT, Zu, Ya, tup, tyf])
      clear hN6
      try clear N6
      obtain ⟨⟨x, y⟩, hxy⟩ : ∃ p, xs.getD k (0, 0) = p := ⟨_, rfl⟩
      obtain ⟨⟨z, w⟩, hzw⟩ : ∃ p, ys.getD k (0, 0) = p := ⟨_, rfl⟩
      refine Yd ?_
      simp only [q35_6]
      refine aw_cut fun D hD => ?_
      refine Xg [] (by kernel_rfl) (by kernel_rfl) (by kernel_rfl) (by kernel_rfl) ?_
      simp (maxSteps := 2000000) only [s35, ↓Za, ↓Zk, ↓Zr, ↓Ze, ↓Zj, ↓Zs, ↓Zg, ↓Zi, ↓Zf, ↓Zc, ↓Zb, ↓vdn, vup, Zl, Zh, Zm, Zo, Zn, List.map_cons, List.map_nil, cond_true, cond_false, aop, Zv, Zq, Zp, ev, sput, Zt, Zz, Yb, unK, Zd, Zw, Nat.reduceBEq, Nat.reduceAdd, Int.reduceBEq, Int.reduceBNe, Int.reduceLT, Zu, Ya, tup, tyf, hu.idx el_47 Wh hk', hu.load Vh hk', hv.idx el_47 Wh hky, hv.load Vh hky, hxy, hzw, Xh, Option.map_some, List.length_cons, List.length_nil, Nat.zero_add, eqF]
      refine hD _ _ ?_
      by_cases he : x = z ∧ y = w
      · obtain ⟨rfl, rfl⟩ := he
        have hb : (([x, y] : List Int) != [x, y]) = false := by simp
        simp (maxSteps := 2000000) only [s35, ↓Za, ↓Zk, ↓Zr, ↓Ze, ↓Zj, ↓Zs, ↓Zg, ↓Zi, ↓Zf, ↓Zc, ↓Zb, ↓vdn, vup, Zl, Zh, Zm, Zo, Zn, List.map_cons, List.map_nil, cond_true, cond_false, aop, Zv, Zq, Zp, ev, sput, Zt, Zz, Yb, unK, Zd, Zw, Nat.reduceBEq, Nat.reduceAdd, Int.reduceBEq, Int.reduceBNe, Int.reduceLT, Zu, Ya, tup, tyf, hb]
        refine hB [(0, u), (1, v), (4, .bool false), (11, u), (12, Zx xs.length), (13, Zx (k : Nat))] _ _ ?_ (by simp (maxSteps := 2000000) only [↓Za, ↓Zk, ↓Zr, ↓Ze, ↓Zj, ↓Zs, ↓Zg, ↓Zi, ↓Zf, ↓Zc, ↓Zb, ↓vdn, vup, Zl, Zh, Zm, Zo, Zn, List.map_cons, List.map_nil, cond_true, cond_false, aop, Zv, Zq, Zp, ev, sput, Zt, Zz, Yb, unK, Zd, Zw, Nat.reduceBEq, Nat.reduceAdd, Int.reduceBEq, Int.reduceBNe, Int.reduceLT, Zu, Ya, tup, tyf])
        clear hB
        try clear B
        refine Yd ?_
        simp (maxSteps := 2000000) only [s35, ↓Za, ↓Zk, ↓Zr, ↓Ze, ↓Zj, ↓Zs, ↓Zg, ↓Zi, ↓Zf, ↓Zc, ↓Zb, ↓vdn, vup, Zl, Zh, Zm, Zo, Zn, List.map_cons, List.map_nil, cond_true, cond_false, aop, Zv, Zq, Zp, ev, sput, Zt, Zz, Yb, unK, Zd, Zw, Nat.reduceBEq, Nat.reduceAdd, Int.reduceBEq, Int.reduceBNe, Int.reduceLT, Zu, Ya, tup, tyf, add1 (show k < 9223372036854775807 by omega)]
        refine hQ2 _ _ _ ⟨k + 1, ⟨hk', fun i hi => ?_⟩, by omega, by simp (maxSteps := 2000000) only [↓Za, ↓Zk, ↓Zr, ↓Ze, ↓Zj, ↓Zs, ↓Zg, ↓Zi, ↓Zf, ↓Zc, ↓Zb, ↓vdn, vup, Zl, Zh, Zm, Zo, Zn, List.map_cons, List.map_nil, cond_true, cond_false, aop, Zv, Zq, Zp, ev, sput, Zt, Zz, Yb, unK, Zd, Zw, Nat.reduceBEq, Nat.reduceAdd, Int.reduceBEq, Int.reduceBNe, Int.reduceLT, Zu, Ya, tup, tyf], rfl⟩
        rcases Nat.lt_or_ge i k with h1 | h1
        · exact hall i h1
        · rw [show i = k by omega, hxy, hzw]
      · have hb : (([x, y] : List Int) != [z, w]) = true := by
          simp only [bne, Bool.not_eq_true', beq_eq_false_iff_ne, ne_eq, List.cons.injEq, and_true]
          exact he
        simp (maxSteps := 2000000) only [s35, ↓Za, ↓Zk, ↓Zr, ↓Ze, ↓Zj, ↓Zs, ↓Zg, ↓Zi, ↓Zf, ↓Zc, ↓Zb, ↓vdn, vup, Zl, Zh, Zm, Zo, Zn, List.map_cons, List.map_nil, cond_true, cond_false, aop, Zv, Zq, Zp, ev, sput, Zt, Zz, Yb, unK, Zd, Zw, Nat.reduceBEq, Nat.reduceAdd, Int.reduceBEq, Int.reduceBNe, Int.reduceLT, Zu, Ya, tup, tyf, hb]
        refine hQ2 _ _ _ (hQ _ _ _ ?_)
        have hd : decide (xs = ys) = false := by
          rw [decide_eq_false_iff_not]
          rintro rfl
          rw [hxy] at hzw
          exact he (Prod.mk.inj hzw)
        simp (maxSteps := 2000000) only [s35, ↓Za, ↓Zk, ↓Zr, ↓Ze, ↓Zj, ↓Zs, ↓Zg, ↓Zi, ↓Zf, ↓Zc, ↓Zb, ↓vdn, vup, Zl, Zh, Zm, Zo, Zn, List.map_cons, List.map_nil, cond_true, cond_false, aop, Zv, Zq, Zp, ev, sput, Zt, Zz, Yb, unK, Zd, Zw, Nat.reduceBEq, Nat.reduceAdd, Int.reduceBEq, Int.reduceBNe, Int.reduceLT, Zu, Ya, tup, tyf, hd]
    · obtain rfl : k = xs.length := by omega
      refine Zy fun N7 hN7 => ?_
      simp (maxSteps := 2000000) only [s35, ↓Za, ↓Zk, ↓Zr, ↓Ze, ↓Zj, ↓Zs, ↓Zg, ↓Zi, ↓Zf, ↓Zc, ↓Zb, ↓vdn, vup, Zl, Zh, Zm, Zo, Zn, List.map_cons, List.map_nil, cond_true, cond_false, aop, Zv, Zq, Zp, ev, sput, Zt, Zz, Yb, unK, Zd, Zw, Nat.reduceBEq, Nat.reduceAdd, Int.reduceBEq, Int.reduceBNe, Int.reduceLT, Zu, Ya, tup, tyf, hin]
      refine hN7 [(0, u), (1, v), (4, .bool false), (11, u), (12, Zx xs.length), (13, Zx xs.length), (14, .bool false)] _ _ ?_ (by simp (maxSteps := 2000000) only [↓Za, ↓Zk, ↓Zr, ↓Ze, ↓Zj, ↓Zs, ↓Zg, ↓Zi, ↓Zf, ↓Zc, ↓Zb, ↓vdn, vup, Zl, Zh, Zm, Zo, Zn, List.map_cons, List.map_nil, cond_true, cond_false, aop, Zv, Zq, Zp, ev, sput, Zt, Zz, Yb, unK, Zd, Zw, Nat.reduceBEq, Nat.reduceAdd, Int.reduceBEq, Int.reduceBNe, Int.reduceLT, Zu, Ya, tup, tyf])
      clear hN7
      try clear N7
      refine Zy fun N8 hN8 => ?_
      simp (maxSteps := 2000000) only [s35, ↓Za, ↓Zk, ↓Zr, ↓Ze, ↓Zj, ↓Zs, ↓Zg, ↓Zi, ↓Zf, ↓Zc, ↓Zb, ↓vdn, vup, Zl, Zh, Zm, Zo, Zn, List.map_cons, List.map_nil, cond_true, cond_false, aop, Zv, Zq, Zp, ev, sput, Zt, Zz, Yb, unK, Zd, Zw, Nat.reduceBEq, Nat.reduceAdd, Int.reduceBEq, Int.reduceBNe, Int.reduceLT, Zu, Ya, tup, tyf]
      refine hQ2 _ _ _ (hQ _ _ _ ?_)
      simp (maxSteps := 2000000) only [s35, ↓Za, ↓Zk, ↓Zr, ↓Ze, ↓Zj, ↓Zs, ↓Zg, ↓Zi, ↓Zf, ↓Zc, ↓Zb, ↓vdn, vup, Zl, Zh, Zm, Zo, Zn, List.map_cons, List.map_nil, cond_true, cond_false, aop, Zv, Zq, Zp, ev, sput, Zt, Zz, Yb, unK, Zd, Zw, Nat.reduceBEq, Nat.reduceAdd, Int.reduceBEq, Int.reduceBNe, Int.reduceLT, Zu, Ya, tup, tyf, if_true]
      refine hZ [(0, u), (1, v), (4, .bool false), (11, u), (12, Zx xs.length), (13, Zx xs.length), (14, .bool false)] _ _ ?_ (by simp (maxSteps := 2000000) only [↓Za, ↓Zk, ↓Zr, ↓Ze, ↓Zj, ↓Zs, ↓Zg, ↓Zi, ↓Zf, ↓Zc, ↓Zb, ↓vdn, vup, Zl, Zh, Zm, Zo, Zn, List.map_cons, List.map_nil, cond_true, cond_false, aop, Zv, Zq, Zp, ev, sput, Zt, Zz, Yb, unK, Zd, Zw, Nat.reduceBEq, Nat.reduceAdd, Int.reduceBEq, Int.reduceBNe, Int.reduceLT, Zu, Ya, tup, tyf])
      clear hZ
      try clear Z
      refine Yd ?_
      have hd : decide (xs = ys) = true := by
        rw [decide_eq_true_eq]; exact pairs_eq hn _ (Nat.le_refl _) hall rfl
      simp (maxSteps := 2000000) only [s35, ↓Za, ↓Zk, ↓Zr, ↓Ze, ↓Zj, ↓Zs, ↓Zg, ↓Zi, ↓Zf, ↓Zc, ↓Zb, ↓vdn, vup, Zl, Zh, Zm, Zo, Zn, List.map_cons, List.map_nil, cond_true, cond_false, aop, Zv, Zq, Zp, ev, sput, Zt, Zz, Yb, unK, Zd, Zw, Nat.reduceBEq, Nat.reduceAdd, Int.reduceBEq, Int.reduceBNe, Int.reduceLT, Zu, Ya, tup, tyf, hd]
  · have hne : (((xs.length : Nat) : Int) != ((ys.length : Nat) : Int)) = true := by
      have : ¬ ((xs.length : Nat) : Int) = ((ys.length : Nat) : Int) := by omega
      simpa [bne] using this
    refine Yd ?_
    have hd : decide (xs = ys) = false := by
      rw [decide_eq_false_iff_not]
      rintro rfl; exact hn rfl
    simp (maxSteps := 2000000) only [s35, ↓Za, ↓Zk, ↓Zr, ↓Ze, ↓Zj, ↓Zs, ↓Zg, ↓Zi, ↓Zf, ↓Zc, ↓Zb, ↓vdn, vup, Zl, Zh, Zm, Zo, Zn, List.map_cons, List.map_nil, cond_true, cond_false, aop, Zv, Zq, Zp, ev, sput, Zt, Zz, Yb, unK, Zd, Zw, Nat.reduceBEq, Nat.reduceAdd, Int.reduceBEq, Int.reduceBNe, Int.reduceLT, Zu, Ya, tup, tyf, hu.len, hv.len, hne, hd]
end Go.Proofs.Try.Am

namespace Go.Proofs.Try.Am
open Go.Am Bq
set_option maxRecDepth 100000
set_option maxHeartbeats 2000000

theorem pairSl_shape {h : Yc} {v : Value} {l : List (Int × Int)} (hv : PairSl h v l) : ∃ p n c, v = .slice p n c := by
  rcases hv with ⟨rfl, _⟩ | ⟨b, o, sp, cap, c, e, ro, rfl, _⟩
  · exact ⟨_, _, _, rfl⟩
  · exact ⟨_, _, _, rfl⟩
theorem bldT {n : Int} {p : Option Addr} {m c : Nat} {K : Value → Prop} : buildK prog 86 [(0, Zx n), (1, .slice p m c)] K = K (.agg #[Zx n, .slice p m c]) := by
  simp [buildK, zero_86, fillL, pl_86_0, pl_86_1, Ww, cellsOf, Yn]
theorem storeT {h : Yc} {b : Nat} {n : Int} {p : Option Addr} {m k : Nat} {e : TypeId} {c : List Value} {K : Yc → Prop} (hb : h[b]? = some (.cells c e false)) (hc : c.length = 2) : Xu prog h 86 (.pointer (some ⟨b, 0, none⟩)) (.agg #[Zx n, .slice p m k]) K = K (h.set b (.cells [Zx n, .slice p m k] e false)) :=
  storeA (vs := [Zx n, .slice p m k]) hb (by rw [shp_86]; rfl) rfl (by rw [hc]; rfl)
theorem loadT {h : Yc} {b : Nat} {n : Int} {v : Value} {K : Value → Prop} (hb : h[b]? = some (.cells [Zx n, v] 86 false)) : Xv prog h 86 (.pointer (some ⟨b, 0, none⟩)) K = K (.agg #[Zx n, v]) :=
  loadA hb (by rw [shp_86]; rfl)

/-- What Sound hands back. -/
def SoundIs (n : Int) (l : List (Int × Int)) (h' : Yc) (x : Value) (e : Int) : Prop :=
  if Vk n l = true then (match cornersB n.toNat l with | [] => x = .slice none 0 0 ∧ e = 5 | c :: _ => e = 0 ∧ BelAt h' x c) else x = .slice none 0 0 ∧ e = 2
theorem s36_callW [Tabs Try.prog] {args : List Value} {h : Yc} {Q : Value → Yc → Prop} (hsz : args.length ≤ 22) (hk : AWS Try.prog 22 s36 (Zu Try.prog [.tmp 4, .tmp 5] Q) (Zp 0 args) h) : ACall Try.prog 36 args h Q :=
  Yv Try.func36 rfl (enters_of Try.func36 (by kernel_rfl) rfl) rfl rfl (by decide) s36_strip s36_ok hsz hk
theorem sound_call [Tabs prog] {h : Yc} {n : Int} {v : Value} {l : List (Int × Int)} (hv : PairSl h v l) (hl : l.length < 9223372036854775808) (ht : Vk n l = true → TameAll n.toNat l) :
    ACall prog 36 [Zx n, v] h fun r h' => Ext (fun _ => False) h h' ∧ ∃ x e, r = .tuple #[x, .int .i64 e] ∧ SoundIs n l h' x e := by
  obtain ⟨p, m, c, rfl⟩ := pairSl_shape hv
  obtain ⟨H, hH⟩ : ∃ H, H = h ++ [Blk.cells [Zx n, .slice p m c] 86 false] := ⟨_, rfl⟩
  have hE : Ext (fun _ => False) h H := by rw [hH]; exact Ext.app _ _ _
  have b6 : H[h.length]? = some (.cells [Zx n, .slice p m c] 86 false) := by rw [hH]; exact Yl _ _
  have hvH := hv.ext hE
  refine s36_callW (by simp) ?_
  simp only [s36]
  refine Zy fun N1 hN1 => ?_
  simp (maxSteps := 2000000) only [s36, ↓Za, ↓Zk, ↓Zr, ↓Ze, ↓Zj, ↓Zs, ↓Zg, ↓Zi, ↓Zf, ↓Zc, ↓Zb, ↓vdn, vup, Zl, Zh, Zm, Zo, Zn, List.map_cons, List.map_nil, cond_true, cond_false, aop, Zv, Zq, Zp, ev, sput, Zt, Zz, Yb, unK, Zd, Zw, Nat.reduceBEq, Nat.reduceAdd, Int.reduceBEq, Int.reduceBNe, Int.reduceLT, Zu, Ya, tup, tyf]
  refine hN1 [(0, Zx n), (1, .slice p m c), (4, .slice none 0 0), (5, .int .i64 0)] _ _ ?_ (by simp (maxSteps := 2000000) only [↓Za, ↓Zk, ↓Zr, ↓Ze, ↓Zj, ↓Zs, ↓Zg, ↓Zi, ↓Zf, ↓Zc, ↓Zb, ↓vdn, vup, Zl, Zh, Zm, Zo, Zn, List.map_cons, List.map_nil, cond_true, cond_false, aop, Zv, Zq, Zp, ev, sput, Zt, Zz, Yb, unK, Zd, Zw, Nat.reduceBEq, Nat.reduceAdd, Int.reduceBEq, Int.reduceBNe, Int.reduceLT, Zu, Ya, tup, tyf])
  clear hN1
  try clear N1
  refine Zy fun N2 hN2 => ?_
  simp (maxSteps := 2000000) only [s36, ↓Za, ↓Zk, ↓Zr, ↓Ze, ↓Zj, ↓Zs, ↓Zg, ↓Zi, ↓Zf, ↓Zc, ↓Zb, ↓vdn, vup, Zl, Zh, Zm, Zo, Zn, List.map_cons, List.map_nil, cond_true, cond_false, aop, Zv, Zq, Zp, ev, sput, Zt, Zz, Yb, unK, Zd, Zw, Nat.reduceBEq, Nat.reduceAdd, Int.reduceBEq, Int.reduceBNe, Int.reduceLT, Zu, Ya, tup, tyf, List.map_toArray, bldT, Xq, Xb, zero_86, storeT (Yl h (.cells [.int .i64 0, .slice none 0 0] 86 false)) rfl, Wj]
  rw [← hH]
  refine hN2 [(4, .slice none 0 0), (5, .int .i64 0), (6, .pointer (some ⟨h.length, 0, none⟩))] _ _ ?_ (by simp (maxSteps := 2000000) only [↓Za, ↓Zk, ↓Zr, ↓Ze, ↓Zj, ↓Zs, ↓Zg, ↓Zi, ↓Zf, ↓Zc, ↓Zb, ↓vdn, vup, Zl, Zh, Zm, Zo, Zn, List.map_cons, List.map_nil, cond_true, cond_false, aop, Zv, Zq, Zp, ev, sput, Zt, Zz, Yb, unK, Zd, Zw, Nat.reduceBEq, Nat.reduceAdd, Int.reduceBEq, Int.reduceBNe, Int.reduceLT, Zu, Ya, tup, tyf])
  clear hN2
  try clear N2
  refine Ye fun M hM => ?_
  refine Zy fun N3 hN3 => ?_
  simp (maxSteps := 2000000) only [s36, ↓Za, ↓Zk, ↓Zr, ↓Ze, ↓Zj, ↓Zs, ↓Zg, ↓Zi, ↓Zf, ↓Zc, ↓Zb, ↓vdn, vup, Zl, Zh, Zm, Zo, Zn, List.map_cons, List.map_nil, cond_true, cond_false, aop, Zv, Zq, Zp, ev, sput, Zt, Zz, Yb, unK, Zd, Zw, Nat.reduceBEq, Nat.reduceAdd, Int.reduceBEq, Int.reduceBNe, Int.reduceLT, Zu, Ya, tup, tyf, Yx, List.nil_append, List.append_nil, List.toList_toArray, List.cons_append, loadT b6]
  refine (valid_call hvH hl).mono ?_
  rintro _ H ⟨rfl, rfl⟩
  refine hN3 [(4, .slice none 0 0), (5, .int .i64 0), (6, .pointer (some ⟨h.length, 0, none⟩)), (13, .bool (!Vk n l))] _ _ ?_ (by simp (maxSteps := 2000000) only [↓Za, ↓Zk, ↓Zr, ↓Ze, ↓Zj, ↓Zs, ↓Zg, ↓Zi, ↓Zf, ↓Zc, ↓Zb, ↓vdn, vup, Zl, Zh, Zm, Zo, Zn, List.map_cons, List.map_nil, cond_true, cond_false, aop, Zv, Zq, Zp, ev, sput, Zt, Zz, Yb, unK, Zd, Zw, Nat.reduceBEq, Nat.reduceAdd, Int.reduceBEq, Int.reduceBNe, Int.reduceLT, Zu, Ya, tup, tyf])
  clear hN3
  try clear N3
  cases hval : Vk n l with
  | false =>
    refine Vn rfl ?_
    refine Yd ?_
    simp (maxSteps := 2000000) only [s36, ↓Za, ↓Zk, ↓Zr, ↓Ze, ↓Zj, ↓Zs, ↓Zg, ↓Zi, ↓Zf, ↓Zc, ↓Zb, ↓vdn, vup, Zl, Zh, Zm, Zo, Zn, List.map_cons, List.map_nil, cond_true, cond_false, aop, Zv, Zq, Zp, ev, sput, Zt, Zz, Yb, unK, Zd, Zw, Nat.reduceBEq, Nat.reduceAdd, Int.reduceBEq, Int.reduceBNe, Int.reduceLT, Zu, Ya, tup, tyf]
    exact ⟨hE, _, _, rfl, by rw [SoundIs, if_neg (by simp [hval])]; exact ⟨rfl, rfl⟩⟩
  | true =>
    refine Wc rfl ?_
    refine Yd ?_
    simp (maxSteps := 2000000) only [s36, ↓Za, ↓Zk, ↓Zr, ↓Ze, ↓Zj, ↓Zs, ↓Zg, ↓Zi, ↓Zf, ↓Zc, ↓Zb, ↓vdn, vup, Zl, Zh, Zm, Zo, Zn, List.map_cons, List.map_nil, cond_true, cond_false, aop, Zv, Zq, Zp, ev, sput, Zt, Zz, Yb, unK, Zd, Zw, Nat.reduceBEq, Nat.reduceAdd, Int.reduceBEq, Int.reduceBNe, Int.reduceLT, Zu, Ya, tup, tyf]
    refine hM [(4, .slice none 0 0), (5, .int .i64 0), (6, .pointer (some ⟨h.length, 0, none⟩))] _ _ ?_ (by simp (maxSteps := 2000000) only [↓Za, ↓Zk, ↓Zr, ↓Ze, ↓Zj, ↓Zs, ↓Zg, ↓Zi, ↓Zf, ↓Zc, ↓Zb, ↓vdn, vup, Zl, Zh, Zm, Zo, Zn, List.map_cons, List.map_nil, cond_true, cond_false, aop, Zv, Zq, Zp, ev, sput, Zt, Zz, Yb, unK, Zd, Zw, Nat.reduceBEq, Nat.reduceAdd, Int.reduceBEq, Int.reduceBNe, Int.reduceLT, Zu, Ya, tup, tyf])
    clear hM
    try clear M
    have hn : n = (n.toNat : Int) := by
      simp only [Vk, Bool.and_eq_true, decide_eq_true_eq] at hval; omega
    have hcor := corners_call (n := n.toNat) hvH (by rw [← hn]; exact hval) (ht hval)
    rw [← hn] at hcor
    refine Zy fun N4 hN4 => ?_
    simp (maxSteps := 2000000) only [s36, ↓Za, ↓Zk, ↓Zr, ↓Ze, ↓Zj, ↓Zs, ↓Zg, ↓Zi, ↓Zf, ↓Zc, ↓Zb, ↓vdn, vup, Zl, Zh, Zm, Zo, Zn, List.map_cons, List.map_nil, cond_true, cond_false, aop, Zv, Zq, Zp, ev, sput, Zt, Zz, Yb, unK, Zd, Zw, Nat.reduceBEq, Nat.reduceAdd, Int.reduceBEq, Int.reduceBNe, Int.reduceLT, Zu, Ya, tup, tyf, Yx, List.nil_append, List.append_nil, List.toList_toArray, List.cons_append, loadT b6]
    refine (hcor).mono ?_
    rintro r H1 ⟨hE1, ⟨ws, hor, heach⟩, hb⟩
    refine hN4 [(4, .slice none 0 0), (5, .int .i64 0), (6, .pointer (some ⟨h.length, 0, none⟩)), (7, r)] _ _ ?_ (by simp (maxSteps := 2000000) only [↓Za, ↓Zk, ↓Zr, ↓Ze, ↓Zj, ↓Zs, ↓Zg, ↓Zi, ↓Zf, ↓Zc, ↓Zb, ↓vdn, vup, Zl, Zh, Zm, Zo, Zn, List.map_cons, List.map_nil, cond_true, cond_false, aop, Zv, Zq, Zp, ev, sput, Zt, Zz, Yb, unK, Zd, Zw, Nat.reduceBEq, Nat.reduceAdd, Int.reduceBEq, Int.reduceBNe, Int.reduceLT, Zu, Ya, tup, tyf])
    clear hN4
    try clear N4
    have hEE := hE.trans hE1
    have hlen := heach.len
    refine Yd ?_
    have his : ∀ x e, SoundIs n l H1 x e ↔ (match cornersB n.toNat l with | [] => x = .slice none 0 0 ∧ e = 5 | c :: _ => e = 0 ∧ BelAt H1 x c) := fun x e => by rw [SoundIs, if_pos hval]
    cases hc : cornersB n.toNat l with
    | nil =>
      rw [hc] at hlen heach
      have h0 : (((ws.length : Nat) : Int) == 0) = true := by simp [hlen]
      simp (maxSteps := 2000000) only [s36, ↓Za, ↓Zk, ↓Zr, ↓Ze, ↓Zj, ↓Zs, ↓Zg, ↓Zi, ↓Zf, ↓Zc, ↓Zb, ↓vdn, vup, Zl, Zh, Zm, Zo, Zn, List.map_cons, List.map_nil, cond_true, cond_false, aop, Zv, Zq, Zp, ev, sput, Zt, Zz, Yb, unK, Zd, Zw, Nat.reduceBEq, Nat.reduceAdd, Int.reduceBEq, Int.reduceBNe, Int.reduceLT, Zu, Ya, tup, tyf, hor.val.len, h0]
      exact ⟨hEE, _, _, rfl, (his _ _).2 (by rw [hc]; exact ⟨rfl, rfl⟩)⟩
    | cons c0 cs =>
      rw [hc] at hlen heach
      have hpos : 0 < ws.length := by rw [hlen]; simp
      have h0 : (((ws.length : Nat) : Int) == 0) = false := beq_eq_false_iff_ne.2 (by omega)
      have hi0 : ∀ K : Value → Prop, Xc prog 88 r (.int .i64 0) K = K (Vj r 1 0) := fun K => by
        have := hor.val.idx el_88 esz_90 (k := .i64) hpos K
        simpa using this
      simp (maxSteps := 2000000) only [s36, ↓Za, ↓Zk, ↓Zr, ↓Ze, ↓Zj, ↓Zs, ↓Zg, ↓Zi, ↓Zf, ↓Zc, ↓Zb, ↓vdn, vup, Zl, Zh, Zm, Zo, Zn, List.map_cons, List.map_nil, cond_true, cond_false, aop, Zv, Zq, Zp, ev, sput, Zt, Zz, Yb, unK, Zd, Zw, Nat.reduceBEq, Nat.reduceAdd, Int.reduceBEq, Int.reduceBNe, Int.reduceLT, Zu, Ya, tup, tyf, hor.val.len, h0, hi0, hor.val.load shp_90 hpos]
      have hbel := heach.get undef [] (k := 0) (by simp)
      exact ⟨hEE, _, _, rfl, (his _ _).2 (by rw [hc]; exact ⟨rfl, hbel⟩)⟩

theorem s21_callW [Tabs Try.prog] {args : List Value} {h : Yc} {Q : Value → Yc → Prop} (hsz : args.length ≤ 18) (hk : AWS Try.prog 18 s21 (Zu Try.prog [.tmp 0] Q) (Zp 0 args) h) : ACall Try.prog 21 args h Q :=
  Yv Try.func21 rfl (enters_of Try.func21 (by kernel_rfl) rfl) rfl rfl (by decide) s21_strip s21_ok hsz hk
theorem awake_call [Tabs prog] {h : Yc} : Xi prog 21 [] h (.bool true) := by
  refine ACall.forget (Low.bool _) ?_
  refine s21_callW (by simp) ?_
  simp only [s21]
  have bldB : ∀ {x y : Int} {K : Value → Prop}, buildK prog 92 [(0, Zx x), (1, Zx y)] K = K (.agg #[Zx x, Zx y]) := fun {x y K} => by
    simp [buildK, zero_92, fillL, pl_92_0, pl_92_1, Ww, cellsOf, Yn]
  have lit : ∀ {K : Value → Yc → Prop}, Yt prog h 30 1 [(0, .agg #[Zx 1, Zx 6])] K = K (.slice (some ⟨h.length, 0, none⟩) 1 1) (h ++ [.ints [1, 6] 92 false]) := fun {K} => by
    simp only [Yt, el_30, zero_92, esz_92, reps, fillL, mkb, Ww, cellsOf, List.toList_toArray, List.length_cons, List.length_nil, Nat.zero_add, Nat.zero_mul, Yn]
    refine propext ⟨fun h => ?_, fun h => ⟨trivial, by decide, by decide, ?_⟩⟩
    · simpa [Xh] using h.2.2.2
    · simpa [Xh] using h
  have hp : PairSl (h ++ [.ints [1, 6] 92 false]) (.slice (some ⟨h.length, 0, none⟩) 1 1) [(1, 6)] := .inr ⟨h.length, 0, none, 1, [Zx 1, Zx 6], 92, false, rfl, Nat.le_refl _, by simp [view, Blk.view], fun i hi => by
    obtain rfl : i = 0 := by simpa using hi
    exact ⟨rfl, rfl⟩⟩
  have hv : Vk 2 [(1, 6)] = true := by decide
  refine Zy fun N5 hN5 => ?_
  simp (maxSteps := 2000000) only [s21, ↓Za, ↓Zk, ↓Zr, ↓Ze, ↓Zj, ↓Zs, ↓Zg, ↓Zi, ↓Zf, ↓Zc, ↓Zb, ↓vdn, vup, Zl, Zh, Zm, Zo, Zn, List.map_cons, List.map_nil, cond_true, cond_false, aop, Zv, Zq, Zp, ev, sput, Zt, Zz, Yb, unK, Zd, Zw, Nat.reduceBEq, Nat.reduceAdd, Int.reduceBEq, Int.reduceBNe, Int.reduceLT, Zu, Ya, tup, tyf]
  refine hN5 [(0, .bool false)] _ _ ?_ (by simp (maxSteps := 2000000) only [↓Za, ↓Zk, ↓Zr, ↓Ze, ↓Zj, ↓Zs, ↓Zg, ↓Zi, ↓Zf, ↓Zc, ↓Zb, ↓vdn, vup, Zl, Zh, Zm, Zo, Zn, List.map_cons, List.map_nil, cond_true, cond_false, aop, Zv, Zq, Zp, ev, sput, Zt, Zz, Yb, unK, Zd, Zw, Nat.reduceBEq, Nat.reduceAdd, Int.reduceBEq, Int.reduceBNe, Int.reduceLT, Zu, Ya, tup, tyf])
  clear hN5
  try clear N5
  refine Zy fun N6 hN6 => ?_
  simp (maxSteps := 2000000) only [s21, ↓Za, ↓Zk, ↓Zr, ↓Ze, ↓Zj, ↓Zs, ↓Zg, ↓Zi, ↓Zf, ↓Zc, ↓Zb, ↓vdn, vup, Zl, Zh, Zm, Zo, Zn, List.map_cons, List.map_nil, cond_true, cond_false, aop, Zv, Zq, Zp, ev, sput, Zt, Zz, Yb, unK, Zd, Zw, Nat.reduceBEq, Nat.reduceAdd, Int.reduceBEq, Int.reduceBNe, Int.reduceLT, Zu, Ya, tup, tyf, List.map_toArray, bldB, lit, Yx, List.nil_append, List.append_nil, List.toList_toArray, List.cons_append]
  refine (sound_call (n := 2) hp (by decide) fun _ => tame_awake).mono ?_
  rintro r h1 ⟨hE1, x, e, rfl, hs⟩
  rw [SoundIs, if_pos hv, show (2 : Int).toNat = 2 from rfl, corners_awake] at hs
  simp only at hs
  obtain ⟨rfl, bl, rfl, hbl⟩ := hs
  have hE : Ext (fun _ => False) h h1 := (Ext.app _ _ _).trans hE1
  have px := pairSl_cells hbl
  have hlist : ([1 / 2, 1 / 2] : List Rat).map ofQ = [(1, 2), (1, 2)] := by decide +kernel
  rw [hlist] at px
  simp (maxSteps := 2000000) only [s21, ↓Za, ↓Zk, ↓Zr, ↓Ze, ↓Zj, ↓Zs, ↓Zg, ↓Zi, ↓Zf, ↓Zc, ↓Zb, ↓vdn, vup, Zl, Zh, Zm, Zo, Zn, List.map_cons, List.map_nil, cond_true, cond_false, aop, Zv, Zq, Zp, ev, sput, Zt, Zz, Yb, unK, Zd, Zw, Nat.reduceBEq, Nat.reduceAdd, Int.reduceBEq, Int.reduceBNe, Int.reduceLT, Zu, Ya, tup, tyf, List.length_cons, List.length_nil]
  refine hN6 [(0, .bool false), (1, .slice (some ⟨bl, 0, none⟩) 2 2), (2, .int .i64 0)] _ _ ?_ (by simp (maxSteps := 2000000) only [↓Za, ↓Zk, ↓Zr, ↓Ze, ↓Zj, ↓Zs, ↓Zg, ↓Zi, ↓Zf, ↓Zc, ↓Zb, ↓vdn, vup, Zl, Zh, Zm, Zo, Zn, List.map_cons, List.map_nil, cond_true, cond_false, aop, Zv, Zq, Zp, ev, sput, Zt, Zz, Yb, unK, Zd, Zw, Nat.reduceBEq, Nat.reduceAdd, Int.reduceBEq, Int.reduceBNe, Int.reduceLT, Zu, Ya, tup, tyf])
  clear hN6
  try clear N6
  have lit2 : ∀ {K : Value → Yc → Prop}, Yt prog h1 47 2 [(0, .agg #[Zx 1, Zx 2]), (1, .agg #[Zx 1, Zx 2])] K = K (.slice (some ⟨h1.length, 0, none⟩) 2 2) (h1 ++ [.ints [1, 2, 1, 2] 26 false]) := fun {K} => by
    simp [Yt, el_47, Xp, Wh, reps, fillL, mkb, Ww, cellsOf, Yn, Xh]
  have p2 : PairSl (h1 ++ [.ints [1, 2, 1, 2] 26 false]) (.slice (some ⟨h1.length, 0, none⟩) 2 2) [(1, 2), (1, 2)] := .inr ⟨h1.length, 0, none, 2, [Zx 1, Zx 2, Zx 1, Zx 2], 26, false, rfl, Nat.le_refl _, by simp [view, Blk.view], fun i hi => by
    have : i = 0 ∨ i = 1 := by simp at hi; omega
    rcases this with rfl | rfl <;> exact ⟨rfl, rfl⟩⟩
  have eq := equalF_call (px.ext (Ext.app _ _ _)) p2 (by decide)
  refine Yd ?_
  simp (maxSteps := 2000000) only [s21, ↓Za, ↓Zk, ↓Zr, ↓Ze, ↓Zj, ↓Zs, ↓Zg, ↓Zi, ↓Zf, ↓Zc, ↓Zb, ↓vdn, vup, Zl, Zh, Zm, Zo, Zn, List.map_cons, List.map_nil, cond_true, cond_false, aop, Zv, Zq, Zp, ev, sput, Zt, Zz, Yb, unK, Zd, Zw, Nat.reduceBEq, Nat.reduceAdd, Int.reduceBEq, Int.reduceBNe, Int.reduceLT, Zu, Ya, tup, tyf, Yx, List.nil_append, List.append_nil, List.toList_toArray, List.cons_append, List.map_toArray, bldF, lit2]
  refine (eq).mono ?_
  rintro _ _ ⟨rfl, rfl⟩
  simp (maxSteps := 2000000) only [s21, ↓Za, ↓Zk, ↓Zr, ↓Ze, ↓Zj, ↓Zs, ↓Zg, ↓Zi, ↓Zf, ↓Zc, ↓Zb, ↓vdn, vup, Zl, Zh, Zm, Zo, Zn, List.map_cons, List.map_nil, cond_true, cond_false, aop, Zv, Zq, Zp, ev, sput, Zt, Zz, Yb, unK, Zd, Zw, Nat.reduceBEq, Nat.reduceAdd, Int.reduceBEq, Int.reduceBNe, Int.reduceLT, Zu, Ya, tup, tyf, decide_true]
  exact hE.trans (Ext.app _ _ _)
end Go.Proofs.Try.Am

namespace Go.Proofs.Try.Am
open Go.Am Bq
set_option maxRecDepth 100000
set_option maxHeartbeats 4000000

theorem s49_callW [Tabs Try.prog] {args : List Value} {h : Yc} {Q : Value → Yc → Prop} (hsz : args.length ≤ 42) (hk : AWS Try.prog 42 s49 (Zu Try.prog [.tmp 4] Q) (Zp 0 args) h) : ACall Try.prog 49 args h Q :=
  Yv Try.func49 rfl (enters_of Try.func49 (by kernel_rfl) rfl) rfl rfl (by decide) s49_strip s49_ok hsz hk
theorem rworth_call [Tabs prog] {h : Yc} {v w : Value} {ys : List Int} {ps : List (Int × Int)} (hv : IntSl h v ys) (hw : PairSl h w ps) (hl : ps.length ≤ 5) (hly : ys.length = ps.length) (hyb : ∀ i, i < ys.length → 1 ≤ ys.getD i 0 ∧ ys.getD i 0 ≤ 12) (hxp : InR ps) (c : Chn ps) :
    ACall prog 49 [v, w] h fun r h' => Ext (fun _ => False) h h' ∧ PairSl h' r (worthL ys ps ps.length) := by
  have hml := (mult_spec c.m).2.2
  have hM0 := Nat.pos_of_ne_zero c.m
  refine s49_callW (by simp) ?_
  simp only [s49]
  refine Zy fun N1 hN1 => ?_
  simp (maxSteps := 2000000) only [s49, ↓Za, ↓Zk, ↓Zr, ↓Ze, ↓Zj, ↓Zs, ↓Zg, ↓Zi, ↓Zf, ↓Zc, ↓Zb, ↓vdn, vup, Zl, Zh, Zm, Zo, Zn, List.map_cons, List.map_nil, cond_true, cond_false, aop, Zv, Zq, Zp, ev, sput, Zt, Zz, Yb, unK, Zd, Zw, Nat.reduceBEq, Nat.reduceAdd, Int.reduceBEq, Int.reduceBNe, Int.reduceLT, Zu, Ya, tup, tyf]
  refine hN1 [(0, v), (1, w), (4, .slice none 0 0)] _ _ ?_ (by simp (maxSteps := 2000000) only [↓Za, ↓Zk, ↓Zr, ↓Ze, ↓Zj, ↓Zs, ↓Zg, ↓Zi, ↓Zf, ↓Zc, ↓Zb, ↓vdn, vup, Zl, Zh, Zm, Zo, Zn, List.map_cons, List.map_nil, cond_true, cond_false, aop, Zv, Zq, Zp, ev, sput, Zt, Zz, Yb, unK, Zd, Zw, Nat.reduceBEq, Nat.reduceAdd, Int.reduceBEq, Int.reduceBNe, Int.reduceLT, Zu, Ya, tup, tyf])
  clear hN1
  try clear N1
  have r0 := partTo_rp c (2 ^ ps.length - 1) ps.length (Nat.le_refl _)
  have pb0 := Vg c (2 ^ ps.length - 1) ps.length (Nat.le_refl _)
  have pc0 := part_call (h := h) (evt := 2 ^ ps.length - 1) hw (by omega) hxp c (by have := pow_le (show ps.length ≤ 62 by omega); omega)
  rw [inEv_all] at r0
  have hnM := Nat.mul_le_mul hl hml
  have hnM2 : ((ps.length * Xt ps : Nat) : Int) ≤ 50000000000 := by omega
  rw [Int.natCast_mul] at hnM2
  have rb : ∀ i, i < ps.length → Rp (Xt ps) (Xs (Xt ps) ps (2 ^ i) ps.length) (fq ps i) := fun i hi => by
    have := partTo_rp c (2 ^ i) ps.length (Nat.le_refl _)
    rwa [inEv_one _ hi] at this
  have pbb : ∀ i, 0 ≤ Xs (Xt ps) ps (2 ^ i) ps.length ∧ Xs (Xt ps) ps (2 ^ i) ps.length ≤ 50000000000 := fun i => by
    have := Vg c (2 ^ i) ps.length (Nat.le_refl _)
    omega
  have pcb : ∀ i (h' : Yc), PairSl h' w ps → i < ps.length → Xi prog 74 [w, Zx ((2 ^ i : Nat) : Int)] h' (Zx (Xs (Xt ps) ps (2 ^ i) ps.length)) := fun i h' hw' hi =>
    part_call hw' (by omega) hxp c (by have := pow_le (show i ≤ 62 by omega); omega)
  have mc := mult_call (h := h) hw (by omega) hxp
  obtain ⟨P0, hP0⟩ : ∃ P, Xs (Xt ps) ps (2 ^ ps.length - 1) ps.length = P := ⟨_, rfl⟩
  rw [hP0] at r0 pb0 pc0
  obtain ⟨M, hM⟩ : ∃ M, Xt ps = M := ⟨_, rfl⟩
  rw [hM] at r0 pb0 rb pbb pcb mc hml hM0 hnM2
  refine Zy fun N2 hN2 => ?_
  simp (maxSteps := 2000000) only [s49, ↓Za, ↓Zk, ↓Zr, ↓Ze, ↓Zj, ↓Zs, ↓Zg, ↓Zi, ↓Zf, ↓Zc, ↓Zb, ↓vdn, vup, Zl, Zh, Zm, Zo, Zn, List.map_cons, List.map_nil, cond_true, cond_false, aop, Zv, Zq, Zp, ev, sput, Zt, Zz, Yb, unK, Zd, Zw, Nat.reduceBEq, Nat.reduceAdd, Int.reduceBEq, Int.reduceBNe, Int.reduceLT, Zu, Ya, tup, tyf, Yx, List.nil_append, List.append_nil, List.toList_toArray, List.cons_append]
  refine (mc).mono ?_
  rintro _ h ⟨rfl, rfl⟩
  refine hN2 [(0, v), (1, w), (4, .slice none 0 0), (5, Zx (M : Nat))] _ _ ?_ (by simp (maxSteps := 2000000) only [↓Za, ↓Zk, ↓Zr, ↓Ze, ↓Zj, ↓Zs, ↓Zg, ↓Zi, ↓Zf, ↓Zc, ↓Zb, ↓vdn, vup, Zl, Zh, Zm, Zo, Zn, List.map_cons, List.map_nil, cond_true, cond_false, aop, Zv, Zq, Zp, ev, sput, Zt, Zz, Yb, unK, Zd, Zw, Nat.reduceBEq, Nat.reduceAdd, Int.reduceBEq, Int.reduceBNe, Int.reduceLT, Zu, Ya, tup, tyf])
  clear hN2
  try clear N2
  have s1 : subV .i64 ((M : Nat) : Int) P0 = M - P0 := subN (by omega)
  refine Zy fun N3 hN3 => ?_
  simp (maxSteps := 2000000) only [s49, ↓Za, ↓Zk, ↓Zr, ↓Ze, ↓Zj, ↓Zs, ↓Zg, ↓Zi, ↓Zf, ↓Zc, ↓Zb, ↓vdn, vup, Zl, Zh, Zm, Zo, Zn, List.map_cons, List.map_nil, cond_true, cond_false, aop, Zv, Zq, Zp, ev, sput, Zt, Zz, Yb, unK, Zd, Zw, Nat.reduceBEq, Nat.reduceAdd, Int.reduceBEq, Int.reduceBNe, Int.reduceLT, Zu, Ya, tup, tyf, Yx, List.nil_append, List.append_nil, List.toList_toArray, List.cons_append, hw.len, shl1 (show ps.length ≤ 62 by omega), all_worlds (show ps.length ≤ 62 by omega), Int.natCast_nonneg]
  refine (pc0).mono ?_
  rintro _ h ⟨rfl, rfl⟩
  simp (maxSteps := 2000000) only [s49, ↓Za, ↓Zk, ↓Zr, ↓Ze, ↓Zj, ↓Zs, ↓Zg, ↓Zi, ↓Zf, ↓Zc, ↓Zb, ↓vdn, vup, Zl, Zh, Zm, Zo, Zn, List.map_cons, List.map_nil, cond_true, cond_false, aop, Zv, Zq, Zp, ev, sput, Zt, Zz, Yb, unK, Zd, Zw, Nat.reduceBEq, Nat.reduceAdd, Int.reduceBEq, Int.reduceBNe, Int.reduceLT, Zu, Ya, tup, tyf, s1]
  refine hN3 [(0, v), (1, w), (4, .slice none 0 0), (5, Zx (M : Nat)), (6, Zx ((M : Int) - P0))] _ _ ?_ (by simp (maxSteps := 2000000) only [↓Za, ↓Zk, ↓Zr, ↓Ze, ↓Zj, ↓Zs, ↓Zg, ↓Zi, ↓Zf, ↓Zc, ↓Zb, ↓vdn, vup, Zl, Zh, Zm, Zo, Zn, List.map_cons, List.map_nil, cond_true, cond_false, aop, Zv, Zq, Zp, ev, sput, Zt, Zz, Yb, unK, Zd, Zw, Nat.reduceBEq, Nat.reduceAdd, Int.reduceBEq, Int.reduceBNe, Int.reduceLT, Zu, Ya, tup, tyf])
  clear hN3
  try clear N3
  have one : Rp M (M : Int) 1 := ⟨hM0, by rw [Rat.one_mul, Rat.intCast_natCast]⟩
  have rl := one.plus r0 (-1)
  have el : (1 : Rat) + ((-1 : Int) : Rat) * Xo (fq ps) ps.length = Xw ps ps.length := by
    rw [Xw, show (((-1 : Int)) : Rat) = -1 from rfl]; grind
  rw [el, show (M : Int) + -1 * P0 = M - P0 by omega] at rl
  obtain ⟨S, hS⟩ : ∃ S, (M : Int) - P0 = S := ⟨_, rfl⟩
  rw [hS] at rl
  rw [hS]
  have Sb : S.natAbs ≤ 50000000000 := by omega
  refine Zy fun N4 hN4 => ?_
  simp (maxSteps := 2000000) only [s49, ↓Za, ↓Zk, ↓Zr, ↓Ze, ↓Zj, ↓Zs, ↓Zg, ↓Zi, ↓Zf, ↓Zc, ↓Zb, ↓vdn, vup, Zl, Zh, Zm, Zo, Zn, List.map_cons, List.map_nil, cond_true, cond_false, aop, Zv, Zq, Zp, ev, sput, Zt, Zz, Yb, unK, Zd, Zw, Nat.reduceBEq, Nat.reduceAdd, Int.reduceBEq, Int.reduceBNe, Int.reduceLT, Zu, Ya, tup, tyf]
  refine hN4 [(0, v), (1, w), (4, .slice none 0 0), (5, Zx (M : Nat)), (6, Zx S), (7, .slice none 0 0)] _ _ ?_ (by simp (maxSteps := 2000000) only [↓Za, ↓Zk, ↓Zr, ↓Ze, ↓Zj, ↓Zs, ↓Zg, ↓Zi, ↓Zf, ↓Zc, ↓Zb, ↓vdn, vup, Zl, Zh, Zm, Zo, Zn, List.map_cons, List.map_nil, cond_true, cond_false, aop, Zv, Zq, Zp, ev, sput, Zt, Zz, Yb, unK, Zd, Zw, Nat.reduceBEq, Nat.reduceAdd, Int.reduceBEq, Int.reduceBNe, Int.reduceLT, Zu, Ya, tup, tyf])
  clear hN4
  try clear N4
  refine Ye fun Z hZ => ?_
  refine Zy fun N5 hN5 => ?_
  simp (maxSteps := 2000000) only [s49, ↓Za, ↓Zk, ↓Zr, ↓Ze, ↓Zj, ↓Zs, ↓Zg, ↓Zi, ↓Zf, ↓Zc, ↓Zb, ↓vdn, vup, Zl, Zh, Zm, Zo, Zn, List.map_cons, List.map_nil, cond_true, cond_false, aop, Zv, Zq, Zp, ev, sput, Zt, Zz, Yb, unK, Zd, Zw, Nat.reduceBEq, Nat.reduceAdd, Int.reduceBEq, Int.reduceBNe, Int.reduceLT, Zu, Ya, tup, tyf, hw.len]
  refine hN5 [(0, v), (1, w), (4, .slice none 0 0), (5, Zx (M : Nat)), (6, Zx S), (7, .slice none 0 0), (19, w), (20, Zx ps.length), (21, .int .i64 0)] _ _ ?_ (by simp (maxSteps := 2000000) only [↓Za, ↓Zk, ↓Zr, ↓Ze, ↓Zj, ↓Zs, ↓Zg, ↓Zi, ↓Zf, ↓Zc, ↓Zb, ↓vdn, vup, Zl, Zh, Zm, Zo, Zn, List.map_cons, List.map_nil, cond_true, cond_false, aop, Zv, Zq, Zp, ev, sput, Zt, Zz, Yb, unK, Zd, Zw, Nat.reduceBEq, Nat.reduceAdd, Int.reduceBEq, Int.reduceBNe, Int.reduceLT, Zu, Ya, tup, tyf])
  clear hN5
  try clear N5
  refine Yf ?_
  refine Yh fun Q hQ => ?_
  refine Yz (γ := Nat × Value × Yc) (fun s => s.1 ≤ ps.length ∧ OwnP 26 s.2.2 s.2.1 (worthL ys ps s.1) ∧ Ext (fun _ => False) h s.2.2 ∧ ∀ b, Ys s.2.1 = some b → h.length ≤ b)
    (fun s => ([(0, v), (1, w), (4, .slice none 0 0), (5, Zx (M : Nat)), (6, Zx S), (7, s.2.1), (19, w), (20, Zx ps.length), (21, Zx (s.1 : Nat))], s.2.2)) (fun s => ps.length - s.1) (0, .slice none 0 0, h) ⟨Nat.zero_le _, .inl ⟨rfl, rfl⟩, Ext.refl _ _, fun b hb => by cases hb⟩ (by simp (maxSteps := 2000000) only [↓Za, ↓Zk, ↓Zr, ↓Ze, ↓Zj, ↓Zs, ↓Zg, ↓Zi, ↓Zf, ↓Zc, ↓Zb, ↓vdn, vup, Zl, Zh, Zm, Zo, Zn, List.map_cons, List.map_nil, cond_true, cond_false, aop, Zv, Zq, Zp, ev, sput, Zt, Zz, Yb, unK, Zd, Zw, Nat.reduceBEq, Nat.reduceAdd, Int.reduceBEq, Int.reduceBNe, Int.reduceLT, Zu, Ya, tup, tyf, Int.natCast_zero]) rfl ?_
  rintro ⟨k, x, H⟩ ⟨hk, ho, hE, hbx⟩
  simp only at hk ho hE hbx
  refine Yh fun Q2 hQ2 => ?_
  simp only [l49_0]
  by_cases hin : (k : Int) < ps.length
  · have hk' : k < ps.length := by omega
    have hky : k < ys.length := by omega
    have hwH := hw.ext hE
    have hvH := intExt hv hE
    obtain ⟨y, hy⟩ : ∃ y, ys.getD k 0 = y := ⟨_, rfl⟩
    have yb := hyb k hky
    rw [hy] at yb
    have rk := rl.plus (rb k hk') y
    have pk := pbb k
    have pck := pcb k H hwH hk'
    rw [pow_cast] at pck
    obtain ⟨P, hP⟩ : ∃ P, Xs M ps (2 ^ k) ps.length = P := ⟨_, rfl⟩
    rw [hP] at rk pk pck
    have wq : Xw ps ps.length + (y : Rat) * fq ps k = worthQ ys ps k := by rw [worthQ, hy]
    rw [wq] at rk
    have yP : (y * P).natAbs ≤ 12 * 50000000000 := by rw [Int.natAbs_mul]; exact Nat.mul_le_mul (by omega) (by omega)
    have m1 : mulV .i64 y P = y * P := mulN (by omega)
    have a1 : addV .i64 S (y * P) = S + y * P := addN (by omega)
    have fc := rfrac_call (h := H) (a := S + y * P) (b := (M : Int)) (by omega) (by omega) (by omega)
    rw [rk.frac] at fc
    have sn := worthL_snoc ys ps k
    obtain ⟨t, ht⟩ : ∃ t, worthQ ys ps k = t := ⟨_, rfl⟩
    rw [ht] at fc sn
    refine Zy fun N6 hN6 => ?_
    simp (maxSteps := 2000000) only [s49, ↓Za, ↓Zk, ↓Zr, ↓Ze, ↓Zj, ↓Zs, ↓Zg, ↓Zi, ↓Zf, ↓Zc, ↓Zb, ↓vdn, vup, Zl, Zh, Zm, Zo, Zn, List.map_cons, List.map_nil, cond_true, cond_false, aop, Zv, Zq, Zp, ev, sput, Zt, Zz, Yb, unK, Zd, Zw, Nat.reduceBEq, Nat.reduceAdd, Int.reduceBEq, Int.reduceBNe, Int.reduceLT, Zu, Ya, tup, tyf, hin]
    refine hN6 [(0, v), (1, w), (4, .slice none 0 0), (5, Zx (M : Nat)), (6, Zx S), (7, x), (19, w), (20, Zx ps.length), (21, Zx (k : Nat)), (22, .bool true)] _ _ ?_ (by simp (maxSteps := 2000000) only [↓Za, ↓Zk, ↓Zr, ↓Ze, ↓Zj, ↓Zs, ↓Zg, ↓Zi, ↓Zf, ↓Zc, ↓Zb, ↓vdn, vup, Zl, Zh, Zm, Zo, Zn, List.map_cons, List.map_nil, cond_true, cond_false, aop, Zv, Zq, Zp, ev, sput, Zt, Zz, Yb, unK, Zd, Zw, Nat.reduceBEq, Nat.reduceAdd, Int.reduceBEq, Int.reduceBNe, Int.reduceLT, Zu, Ya, tup, tyf])
    clear hN6
    try clear N6
    refine Zy fun N7 hN7 => ?_
    simp (maxSteps := 2000000) only [s49, ↓Za, ↓Zk, ↓Zr, ↓Ze, ↓Zj, ↓Zs, ↓Zg, ↓Zi, ↓Zf, ↓Zc, ↓Zb, ↓vdn, vup, Zl, Zh, Zm, Zo, Zn, List.map_cons, List.map_nil, cond_true, cond_false, aop, Zv, Zq, Zp, ev, sput, Zt, Zz, Yb, unK, Zd, Zw, Nat.reduceBEq, Nat.reduceAdd, Int.reduceBEq, Int.reduceBNe, Int.reduceLT, Zu, Ya, tup, tyf]
    refine hN7 [(0, v), (1, w), (4, .slice none 0 0), (5, Zx (M : Nat)), (6, Zx S), (7, x), (19, w), (20, Zx ps.length), (21, Zx (k : Nat))] _ _ ?_ (by simp (maxSteps := 2000000) only [↓Za, ↓Zk, ↓Zr, ↓Ze, ↓Zj, ↓Zs, ↓Zg, ↓Zi, ↓Zf, ↓Zc, ↓Zb, ↓vdn, vup, Zl, Zh, Zm, Zo, Zn, List.map_cons, List.map_nil, cond_true, cond_false, aop, Zv, Zq, Zp, ev, sput, Zt, Zz, Yb, unK, Zd, Zw, Nat.reduceBEq, Nat.reduceAdd, Int.reduceBEq, Int.reduceBNe, Int.reduceLT, Zu, Ya, tup, tyf])
    clear hN7
    try clear N7
    refine Ye fun B hB => ?_
    refine Yf ?_
    refine Zy fun N8 hN8 => ?_
    simp (maxSteps := 2000000) only [s49, ↓Za, ↓Zk, ↓Zr, ↓Ze, ↓Zj, ↓Zs, ↓Zg, ↓Zi, ↓Zf, ↓Zc, ↓Zb, ↓vdn, vup, Zl, Zh, Zm, Zo, Zn, List.map_cons, List.map_nil, cond_true, cond_false, aop, Zv, Zq, Zp, ev, sput, Zt, Zz, Yb, unK, Zd, Zw, Nat.reduceBEq, Nat.reduceAdd, Int.reduceBEq, Int.reduceBNe, Int.reduceLT, Zu, Ya, tup, tyf]
    refine hN8 [(0, v), (1, w), (4, .slice none 0 0), (5, Zx (M : Nat)), (6, Zx S), (7, x), (8, Zx (k : Nat)), (19, w), (20, Zx ps.length), (21, Zx (k : Nat))] _ _ ?_ (by simp (maxSteps := 2000000) only [↓Za, ↓Zk, ↓Zr, ↓Ze, ↓Zj, ↓Zs, ↓Zg, ↓Zi, ↓Zf, ↓Zc, ↓Zb, ↓vdn, vup, Zl, Zh, Zm, Zo, Zn, List.map_cons, List.map_nil, cond_true, cond_false, aop, Zv, Zq, Zp, ev, sput, Zt, Zz, Yb, unK, Zd, Zw, Nat.reduceBEq, Nat.reduceAdd, Int.reduceBEq, Int.reduceBNe, Int.reduceLT, Zu, Ya, tup, tyf])
    clear hN8
    try clear N8
    refine Yd ?_
    simp only [q49_7]
    refine Xg [(9, 1), (13, 1)] (by kernel_rfl) (by kernel_rfl) (by kernel_rfl) (by kernel_rfl) ?_
    refine dops_cut 10 rfl fun N1 hN1 => ?_
    simp (maxSteps := 2000000) only [s49, ↓Za, ↓Zk, ↓Zr, ↓Ze, ↓Zj, ↓Zs, ↓Zg, ↓Zi, ↓Zf, ↓Zc, ↓Zb, ↓vdn, vup, Zl, Zh, Zm, Zo, Zn, List.map_cons, List.map_nil, cond_true, cond_false, aop, Zv, Zq, Zp, ev, sput, Zt, Zz, Yb, unK, Zd, Zw, Nat.reduceBEq, Nat.reduceAdd, Int.reduceBEq, Int.reduceBNe, Int.reduceLT, Zu, Ya, tup, tyf, List.take_succ_cons, List.take_zero, hvH.idx el_38 Vl hky, hvH.load Vb hky, hy, shl1 (show k ≤ 62 by omega), Int.natCast_nonneg, Yx, List.nil_append, List.append_nil, List.toList_toArray, List.cons_append]
    refine ⟨_, _, pck, rfl, ?_⟩
    refine hN1 _ _ ?_
    clear hN1 N1
    refine dops_cut 4 rfl fun N1 hN1 => ?_
    simp (maxSteps := 2000000) only [s49, ↓Za, ↓Zk, ↓Zr, ↓Ze, ↓Zj, ↓Zs, ↓Zg, ↓Zi, ↓Zf, ↓Zc, ↓Zb, ↓vdn, vup, Zl, Zh, Zm, Zo, Zn, List.map_cons, List.map_nil, cond_true, cond_false, aop, Zv, Zq, Zp, ev, sput, Zt, Zz, Yb, unK, Zd, Zw, Nat.reduceBEq, Nat.reduceAdd, Int.reduceBEq, Int.reduceBNe, Int.reduceLT, Zu, Ya, tup, tyf, List.drop_succ_cons, List.drop_zero, List.take_succ_cons, List.take_zero, m1, a1, Yx, List.nil_append, List.append_nil, List.toList_toArray, List.cons_append]
    refine ⟨_, _, fc, rfl, ?_⟩
    refine hN1 _ _ ?_
    clear hN1 N1
    simp (maxSteps := 2000000) only [s49, ↓Za, ↓Zk, ↓Zr, ↓Ze, ↓Zj, ↓Zs, ↓Zg, ↓Zi, ↓Zf, ↓Zc, ↓Zb, ↓vdn, vup, Zl, Zh, Zm, Zo, Zn, List.map_cons, List.map_nil, cond_true, cond_false, aop, Zv, Zq, Zp, ev, sput, Zt, Zz, Yb, unK, Zd, Zw, Nat.reduceBEq, Nat.reduceAdd, Int.reduceBEq, Int.reduceBNe, Int.reduceLT, Zu, Ya, tup, tyf, List.drop_succ_cons, List.drop_zero, qV, frV, List.toList_toArray, litF]
    refine OwnP.append (x := t.num) (y := t.den) (ho.ext (Ext.app _ _ _)) app_47_47 (by simp [worthL]; omega) (Yl _ _) ?_
    intro x' h' ho' hE' hb'
    rw [sn] at ho'
    have hEn := ext_app hE (H' := H ++ [Blk.ints [t.num, (t.den : Int)] 26 false]) (by simp) (fun z hz => List.getElem?_append_left (by have := hE.1; omega)) hbx hE'
    refine hB [(0, v), (1, w), (4, .slice none 0 0), (5, Zx (M : Nat)), (6, Zx S), (7, x'), (19, w), (20, Zx ps.length), (21, Zx (k : Nat))] _ _ ?_ (by simp (maxSteps := 2000000) only [↓Za, ↓Zk, ↓Zr, ↓Ze, ↓Zj, ↓Zs, ↓Zg, ↓Zi, ↓Zf, ↓Zc, ↓Zb, ↓vdn, vup, Zl, Zh, Zm, Zo, Zn, List.map_cons, List.map_nil, cond_true, cond_false, aop, Zv, Zq, Zp, ev, sput, Zt, Zz, Yb, unK, Zd, Zw, Nat.reduceBEq, Nat.reduceAdd, Int.reduceBEq, Int.reduceBNe, Int.reduceLT, Zu, Ya, tup, tyf])
    clear hB
    try clear B
    refine Yd ?_
    simp (maxSteps := 2000000) only [s49, ↓Za, ↓Zk, ↓Zr, ↓Ze, ↓Zj, ↓Zs, ↓Zg, ↓Zi, ↓Zf, ↓Zc, ↓Zb, ↓vdn, vup, Zl, Zh, Zm, Zo, Zn, List.map_cons, List.map_nil, cond_true, cond_false, aop, Zv, Zq, Zp, ev, sput, Zt, Zz, Yb, unK, Zd, Zw, Nat.reduceBEq, Nat.reduceAdd, Int.reduceBEq, Int.reduceBNe, Int.reduceLT, Zu, Ya, tup, tyf, add1 (show k < 9223372036854775807 by omega)]
    refine hQ2 _ _ _ ⟨(k + 1, x', h'), ⟨hk', ho', hEn, fun b hb0 => ?_⟩, by simp only; omega, by simp (maxSteps := 2000000) only [↓Za, ↓Zk, ↓Zr, ↓Ze, ↓Zj, ↓Zs, ↓Zg, ↓Zi, ↓Zf, ↓Zc, ↓Zb, ↓vdn, vup, Zl, Zh, Zm, Zo, Zn, List.map_cons, List.map_nil, cond_true, cond_false, aop, Zv, Zq, Zp, ev, sput, Zt, Zz, Yb, unK, Zd, Zw, Nat.reduceBEq, Nat.reduceAdd, Int.reduceBEq, Int.reduceBNe, Int.reduceLT, Zu, Ya, tup, tyf], rfl⟩
    simp only at hb0
    rcases hb' with hb' | ⟨b', hb1, hb2⟩
    · exact hbx b (hb' ▸ hb0)
    · rw [hb1] at hb0; cases hb0
      rw [List.length_append] at hb2
      have := hE.1; omega
  · obtain rfl : k = ps.length := by omega
    refine Zy fun N9 hN9 => ?_
    simp (maxSteps := 2000000) only [s49, ↓Za, ↓Zk, ↓Zr, ↓Ze, ↓Zj, ↓Zs, ↓Zg, ↓Zi, ↓Zf, ↓Zc, ↓Zb, ↓vdn, vup, Zl, Zh, Zm, Zo, Zn, List.map_cons, List.map_nil, cond_true, cond_false, aop, Zv, Zq, Zp, ev, sput, Zt, Zz, Yb, unK, Zd, Zw, Nat.reduceBEq, Nat.reduceAdd, Int.reduceBEq, Int.reduceBNe, Int.reduceLT, Zu, Ya, tup, tyf, hin]
    refine hN9 [(0, v), (1, w), (4, .slice none 0 0), (5, Zx (M : Nat)), (6, Zx S), (7, x), (19, w), (20, Zx ps.length), (21, Zx ps.length), (22, .bool false)] _ _ ?_ (by simp (maxSteps := 2000000) only [↓Za, ↓Zk, ↓Zr, ↓Ze, ↓Zj, ↓Zs, ↓Zg, ↓Zi, ↓Zf, ↓Zc, ↓Zb, ↓vdn, vup, Zl, Zh, Zm, Zo, Zn, List.map_cons, List.map_nil, cond_true, cond_false, aop, Zv, Zq, Zp, ev, sput, Zt, Zz, Yb, unK, Zd, Zw, Nat.reduceBEq, Nat.reduceAdd, Int.reduceBEq, Int.reduceBNe, Int.reduceLT, Zu, Ya, tup, tyf])
    clear hN9
    try clear N9
    refine Zy fun N10 hN10 => ?_
    simp (maxSteps := 2000000) only [s49, ↓Za, ↓Zk, ↓Zr, ↓Ze, ↓Zj, ↓Zs, ↓Zg, ↓Zi, ↓Zf, ↓Zc, ↓Zb, ↓vdn, vup, Zl, Zh, Zm, Zo, Zn, List.map_cons, List.map_nil, cond_true, cond_false, aop, Zv, Zq, Zp, ev, sput, Zt, Zz, Yb, unK, Zd, Zw, Nat.reduceBEq, Nat.reduceAdd, Int.reduceBEq, Int.reduceBNe, Int.reduceLT, Zu, Ya, tup, tyf]
    refine hQ2 _ _ _ (hQ _ _ _ ?_)
    simp (maxSteps := 2000000) only [s49, ↓Za, ↓Zk, ↓Zr, ↓Ze, ↓Zj, ↓Zs, ↓Zg, ↓Zi, ↓Zf, ↓Zc, ↓Zb, ↓vdn, vup, Zl, Zh, Zm, Zo, Zn, List.map_cons, List.map_nil, cond_true, cond_false, aop, Zv, Zq, Zp, ev, sput, Zt, Zz, Yb, unK, Zd, Zw, Nat.reduceBEq, Nat.reduceAdd, Int.reduceBEq, Int.reduceBNe, Int.reduceLT, Zu, Ya, tup, tyf, if_true]
    refine hZ [(0, v), (1, w), (4, .slice none 0 0), (5, Zx (M : Nat)), (6, Zx S), (7, x), (22, .bool false)] _ _ ?_ (by simp (maxSteps := 2000000) only [↓Za, ↓Zk, ↓Zr, ↓Ze, ↓Zj, ↓Zs, ↓Zg, ↓Zi, ↓Zf, ↓Zc, ↓Zb, ↓vdn, vup, Zl, Zh, Zm, Zo, Zn, List.map_cons, List.map_nil, cond_true, cond_false, aop, Zv, Zq, Zp, ev, sput, Zt, Zz, Yb, unK, Zd, Zw, Nat.reduceBEq, Nat.reduceAdd, Int.reduceBEq, Int.reduceBNe, Int.reduceLT, Zu, Ya, tup, tyf])
    clear hZ
    try clear Z
    refine Yd ?_
    simp (maxSteps := 2000000) only [s49, ↓Za, ↓Zk, ↓Zr, ↓Ze, ↓Zj, ↓Zs, ↓Zg, ↓Zi, ↓Zf, ↓Zc, ↓Zb, ↓vdn, vup, Zl, Zh, Zm, Zo, Zn, List.map_cons, List.map_nil, cond_true, cond_false, aop, Zv, Zq, Zp, ev, sput, Zt, Zz, Yb, unK, Zd, Zw, Nat.reduceBEq, Nat.reduceAdd, Int.reduceBEq, Int.reduceBNe, Int.reduceLT, Zu, Ya, tup, tyf]
    exact ⟨hE, ho.pair⟩

theorem race_take {xs ys : List Int} (h8 : raceB (xs.take 8) (ys.take 8) = true) : xs.take 8 = xs ∧ ys.take 8 = ys := by
  have r := race_of h8
  have l1 := r.len
  have l2 := r.eq
  rw [List.length_take] at l1 l2
  rw [List.length_take] at l2
  exact ⟨List.take_of_length_le (by omega), List.take_of_length_le (by omega)⟩
theorem s11_callW [Tabs Try.prog] {args : List Value} {h : Yc} {Q : Value → Yc → Prop} (hsz : args.length ≤ 52) (hk : AWS Try.prog 52 s11 (Zu Try.prog [.tmp 6] Q) (Zp 0 args) h) : ACall Try.prog 11 args h Q :=
  Yv Try.func11 rfl (enters_of Try.func11 (by kernel_rfl) rfl) rfl rfl (by decide) s11_strip s11_ok hsz hk
theorem law_worth [Tabs prog] {h : Yc} {u v w : Value} {xs ys : List Int} {ps : List (Int × Int)} (hu : IntSl h u xs) (hlx : xs.length < 9223372036854775808) (_hxx : ∀ x ∈ xs, -(2 ^ 63) ≤ x ∧ x < 2 ^ 63) (hv : IntSl h v ys) (hly : ys.length < 9223372036854775808) (_hxy : ∀ x ∈ ys, -(2 ^ 63) ≤ x ∧ x < 2 ^ 63) (hw : PairSl h w ps) (hlp : ps.length < 9223372036854775808) (hxp : InR ps) :
    ACall prog 11 [u, v, w] h fun r _ => r = .bool true := by
  refine s11_callW (by simp) ?_
  simp only [s11]
  refine Zy fun N11 hN11 => ?_
  simp (maxSteps := 2000000) only [s11, ↓Za, ↓Zk, ↓Zr, ↓Ze, ↓Zj, ↓Zs, ↓Zg, ↓Zi, ↓Zf, ↓Zc, ↓Zb, ↓vdn, vup, Zl, Zh, Zm, Zo, Zn, List.map_cons, List.map_nil, cond_true, cond_false, aop, Zv, Zq, Zp, ev, sput, Zt, Zz, Yb, unK, Zd, Zw, Nat.reduceBEq, Nat.reduceAdd, Int.reduceBEq, Int.reduceBNe, Int.reduceLT, Zu, Ya, tup, tyf]
  refine hN11 [(0, u), (1, v), (2, w), (6, .bool false)] _ _ ?_ (by simp (maxSteps := 2000000) only [↓Za, ↓Zk, ↓Zr, ↓Ze, ↓Zj, ↓Zs, ↓Zg, ↓Zi, ↓Zf, ↓Zc, ↓Zb, ↓vdn, vup, Zl, Zh, Zm, Zo, Zn, List.map_cons, List.map_nil, cond_true, cond_false, aop, Zv, Zq, Zp, ev, sput, Zt, Zz, Yb, unK, Zd, Zw, Nat.reduceBEq, Nat.reduceAdd, Int.reduceBEq, Int.reduceBNe, Int.reduceLT, Zu, Ya, tup, tyf])
  clear hN11
  try clear N11
  refine Zy fun N12 hN12 => ?_
  simp (maxSteps := 2000000) only [s11, ↓Za, ↓Zk, ↓Zr, ↓Ze, ↓Zj, ↓Zs, ↓Zg, ↓Zi, ↓Zf, ↓Zc, ↓Zb, ↓vdn, vup, Zl, Zh, Zm, Zo, Zn, List.map_cons, List.map_nil, cond_true, cond_false, aop, Zv, Zq, Zp, ev, sput, Zt, Zz, Yb, unK, Zd, Zw, Nat.reduceBEq, Nat.reduceAdd, Int.reduceBEq, Int.reduceBNe, Int.reduceLT, Zu, Ya, tup, tyf, Yx, List.nil_append, List.append_nil, List.toList_toArray, List.cons_append]
  refine (list_call hu).mono ?_
  rintro u1 h1 ⟨hu1, hE1⟩
  refine (list_call (intExt hv hE1)).mono ?_
  rintro u2 h2 ⟨hu2, hE2⟩
  refine (fracs_call (hw.ext (hE1.trans hE2))).mono ?_
  rintro u3 h3 ⟨hu3, hE3⟩
  refine (progWorth_call (intExt hu1 (hE2.trans hE3)) (intExt hu2 hE3) hu3 (by rw [List.length_take]; omega) (by rw [List.length_take]; omega) (by rw [List.length_take]; omega) (fun p hp => hxp p (List.mem_of_mem_take hp))).mono ?_
  rintro r H ⟨hE4, yes, no⟩
  have hE : Ext (fun _ => False) h H := (hE1.trans hE2).trans (hE3.trans hE4)
  have huH := intExt hu hE
  have hvH := intExt hv hE
  have hwH := hw.ext hE
  by_cases hc : raceB xs ys = true ∧ ps.length = xs.length ∧ stB ps = true
  · obtain ⟨hr, hl, hs⟩ := hc
    have rc := race_of hr
    have rl := rc.len
    have re := rc.eq
    have t1 : xs.take 8 = xs := List.take_of_length_le (by omega)
    have t2 : ys.take 8 = ys := List.take_of_length_le (by omega)
    have t3 : ps.take 8 = ps := List.take_of_length_le (by omega)
    rw [t1, t2, t3] at yes
    obtain ⟨s, rfl, hsl⟩ := yes ⟨hr, hl, hs⟩
    simp (maxSteps := 2000000) only [s11, ↓Za, ↓Zk, ↓Zr, ↓Ze, ↓Zj, ↓Zs, ↓Zg, ↓Zi, ↓Zf, ↓Zc, ↓Zb, ↓vdn, vup, Zl, Zh, Zm, Zo, Zn, List.map_cons, List.map_nil, cond_true, cond_false, aop, Zv, Zq, Zp, ev, sput, Zt, Zz, Yb, unK, Zd, Zw, Nat.reduceBEq, Nat.reduceAdd, Int.reduceBEq, Int.reduceBNe, Int.reduceLT, Zu, Ya, tup, tyf]
    refine hN12 [(0, u), (1, v), (2, w), (6, .bool false), (7, s), (8, .int .i64 0)] _ _ ?_ (by simp (maxSteps := 2000000) only [↓Za, ↓Zk, ↓Zr, ↓Ze, ↓Zj, ↓Zs, ↓Zg, ↓Zi, ↓Zf, ↓Zc, ↓Zb, ↓vdn, vup, Zl, Zh, Zm, Zo, Zn, List.map_cons, List.map_nil, cond_true, cond_false, aop, Zv, Zq, Zp, ev, sput, Zt, Zz, Yb, unK, Zd, Zw, Nat.reduceBEq, Nat.reduceAdd, Int.reduceBEq, Int.reduceBNe, Int.reduceLT, Zu, Ya, tup, tyf])
    clear hN12
    try clear N12
    refine Ye fun M hM => ?_
    refine Zy fun N13 hN13 => ?_
    simp (maxSteps := 2000000) only [s11, ↓Za, ↓Zk, ↓Zr, ↓Ze, ↓Zj, ↓Zs, ↓Zg, ↓Zi, ↓Zf, ↓Zc, ↓Zb, ↓vdn, vup, Zl, Zh, Zm, Zo, Zn, List.map_cons, List.map_nil, cond_true, cond_false, aop, Zv, Zq, Zp, ev, sput, Zt, Zz, Yb, unK, Zd, Zw, Nat.reduceBEq, Nat.reduceAdd, Int.reduceBEq, Int.reduceBNe, Int.reduceLT, Zu, Ya, tup, tyf, Yx, List.nil_append, List.append_nil, List.toList_toArray, List.cons_append]
    refine (rrace_call huH hvH (by omega) (by omega)).mono ?_
    rintro _ H ⟨rfl, rfl⟩
    simp (maxSteps := 2000000) only [s11, ↓Za, ↓Zk, ↓Zr, ↓Ze, ↓Zj, ↓Zs, ↓Zg, ↓Zi, ↓Zf, ↓Zc, ↓Zb, ↓vdn, vup, Zl, Zh, Zm, Zo, Zn, List.map_cons, List.map_nil, cond_true, cond_false, aop, Zv, Zq, Zp, ev, sput, Zt, Zz, Yb, unK, Zd, Zw, Nat.reduceBEq, Nat.reduceAdd, Int.reduceBEq, Int.reduceBNe, Int.reduceLT, Zu, Ya, tup, tyf, hr, Bool.not_true, hvH.len, Yx, List.nil_append, List.append_nil, List.toList_toArray, List.cons_append]
    refine (staking_call hwH (show ys.length ≤ 62 by omega) (by omega) hxp).mono ?_
    rintro _ H ⟨rfl, rfl⟩
    have hd : (decide (ps.length = ys.length) && stB ps) = true := by rw [hs, Bool.and_true, decide_eq_true_eq]; omega
    simp (maxSteps := 2000000) only [s11, ↓Za, ↓Zk, ↓Zr, ↓Ze, ↓Zj, ↓Zs, ↓Zg, ↓Zi, ↓Zf, ↓Zc, ↓Zb, ↓vdn, vup, Zl, Zh, Zm, Zo, Zn, List.map_cons, List.map_nil, cond_true, cond_false, aop, Zv, Zq, Zp, ev, sput, Zt, Zz, Yb, unK, Zd, Zw, Nat.reduceBEq, Nat.reduceAdd, Int.reduceBEq, Int.reduceBNe, Int.reduceLT, Zu, Ya, tup, tyf, hd, Bool.not_true]
    refine hN13 [(0, u), (1, v), (2, w), (6, .bool false), (7, s), (8, .int .i64 0), (29, .bool false)] _ _ ?_ (by simp (maxSteps := 2000000) only [↓Za, ↓Zk, ↓Zr, ↓Ze, ↓Zj, ↓Zs, ↓Zg, ↓Zi, ↓Zf, ↓Zc, ↓Zb, ↓vdn, vup, Zl, Zh, Zm, Zo, Zn, List.map_cons, List.map_nil, cond_true, cond_false, aop, Zv, Zq, Zp, ev, sput, Zt, Zz, Yb, unK, Zd, Zw, Nat.reduceBEq, Nat.reduceAdd, Int.reduceBEq, Int.reduceBNe, Int.reduceLT, Zu, Ya, tup, tyf])
    clear hN13
    try clear N13
    refine Wc rfl ?_
    refine Yd ?_
    simp (maxSteps := 2000000) only [s11, ↓Za, ↓Zk, ↓Zr, ↓Ze, ↓Zj, ↓Zs, ↓Zg, ↓Zi, ↓Zf, ↓Zc, ↓Zb, ↓vdn, vup, Zl, Zh, Zm, Zo, Zn, List.map_cons, List.map_nil, cond_true, cond_false, aop, Zv, Zq, Zp, ev, sput, Zt, Zz, Yb, unK, Zd, Zw, Nat.reduceBEq, Nat.reduceAdd, Int.reduceBEq, Int.reduceBNe, Int.reduceLT, Zu, Ya, tup, tyf]
    refine hM [(0, u), (1, v), (2, w), (6, .bool false), (7, s), (8, .int .i64 0)] _ _ ?_ (by simp (maxSteps := 2000000) only [↓Za, ↓Zk, ↓Zr, ↓Ze, ↓Zj, ↓Zs, ↓Zg, ↓Zi, ↓Zf, ↓Zc, ↓Zb, ↓vdn, vup, Zl, Zh, Zm, Zo, Zn, List.map_cons, List.map_nil, cond_true, cond_false, aop, Zv, Zq, Zp, ev, sput, Zt, Zz, Yb, unK, Zd, Zw, Nat.reduceBEq, Nat.reduceAdd, Int.reduceBEq, Int.reduceBNe, Int.reduceLT, Zu, Ya, tup, tyf])
    clear hM
    try clear M
    obtain ⟨c, _⟩ := st_of hs
    refine Yd ?_
    simp (maxSteps := 2000000) only [s11, ↓Za, ↓Zk, ↓Zr, ↓Ze, ↓Zj, ↓Zs, ↓Zg, ↓Zi, ↓Zf, ↓Zc, ↓Zb, ↓vdn, vup, Zl, Zh, Zm, Zo, Zn, List.map_cons, List.map_nil, cond_true, cond_false, aop, Zv, Zq, Zp, ev, sput, Zt, Zz, Yb, unK, Zd, Zw, Nat.reduceBEq, Nat.reduceAdd, Int.reduceBEq, Int.reduceBNe, Int.reduceLT, Zu, Ya, tup, tyf, Yx, List.nil_append, List.append_nil, List.toList_toArray, List.cons_append]
    refine (rworth_call hvH hwH (by omega) (by omega) rc.b hxp c).mono ?_
    rintro r2 H2 ⟨hE5, hr2⟩
    have hlen : (worthL ys ps ps.length).length = ps.length := by simp [worthL]
    refine (equalF_call (hsl.ext hE5) hr2 (by rw [hlen]; omega)).mono ?_
    rintro _ H3 ⟨rfl, rfl⟩
    have hdd : decide (worthL ys ps ps.length = worthL ys ps ps.length) = true := by simp
    simp (maxSteps := 2000000) only [s11, ↓Za, ↓Zk, ↓Zr, ↓Ze, ↓Zj, ↓Zs, ↓Zg, ↓Zi, ↓Zf, ↓Zc, ↓Zb, ↓vdn, vup, Zl, Zh, Zm, Zo, Zn, List.map_cons, List.map_nil, cond_true, cond_false, aop, Zv, Zq, Zp, ev, sput, Zt, Zz, Yb, unK, Zd, Zw, Nat.reduceBEq, Nat.reduceAdd, Int.reduceBEq, Int.reduceBNe, Int.reduceLT, Zu, Ya, tup, tyf, hdd, Yx, List.nil_append, List.append_nil, List.toList_toArray, List.cons_append]
    exact awake_call.mono fun _ _ h => h.1
  · have hc8 : ¬ (raceB (xs.take 8) (ys.take 8) = true ∧ (ps.take 8).length = (xs.take 8).length ∧ stB (ps.take 8) = true) := by
      rintro ⟨c1, c2, c3⟩
      obtain ⟨t1, t2⟩ := race_take c1
      have l1 := (race_of c1).len
      rw [t1, t2] at c1
      rw [t1] at c2 l1
      have t3 : ps.take 8 = ps := by
        rw [List.length_take] at c2
        exact List.take_of_length_le (by omega)
      rw [t3] at c2 c3
      exact hc ⟨c1, c2, c3⟩
    obtain rfl := no hc8
    simp (maxSteps := 2000000) only [s11, ↓Za, ↓Zk, ↓Zr, ↓Ze, ↓Zj, ↓Zs, ↓Zg, ↓Zi, ↓Zf, ↓Zc, ↓Zb, ↓vdn, vup, Zl, Zh, Zm, Zo, Zn, List.map_cons, List.map_nil, cond_true, cond_false, aop, Zv, Zq, Zp, ev, sput, Zt, Zz, Yb, unK, Zd, Zw, Nat.reduceBEq, Nat.reduceAdd, Int.reduceBEq, Int.reduceBNe, Int.reduceLT, Zu, Ya, tup, tyf]
    refine hN12 [(0, u), (1, v), (2, w), (6, .bool false), (7, .slice none 0 0), (8, .int .i64 2)] _ _ ?_ (by simp (maxSteps := 2000000) only [↓Za, ↓Zk, ↓Zr, ↓Ze, ↓Zj, ↓Zs, ↓Zg, ↓Zi, ↓Zf, ↓Zc, ↓Zb, ↓vdn, vup, Zl, Zh, Zm, Zo, Zn, List.map_cons, List.map_nil, cond_true, cond_false, aop, Zv, Zq, Zp, ev, sput, Zt, Zz, Yb, unK, Zd, Zw, Nat.reduceBEq, Nat.reduceAdd, Int.reduceBEq, Int.reduceBNe, Int.reduceLT, Zu, Ya, tup, tyf])
    clear hN12
    try clear N12
    refine Ye fun M hM => ?_
    refine Zy fun N14 hN14 => ?_
    have e0 : (((0 : Nat) : Int) == 0) = true := rfl
    have fin : ∀ e, ELe e [(0, u), (1, v), (2, w), (6, .bool false), (7, .slice none 0 0), (8, .int .i64 2), (29, .bool true)] → N14 e H := by
      intro e he
      refine hN14 _ _ _ ?_ he
      refine Vn rfl ?_
      refine Yd ?_
      simp (maxSteps := 2000000) only [s11, ↓Za, ↓Zk, ↓Zr, ↓Ze, ↓Zj, ↓Zs, ↓Zg, ↓Zi, ↓Zf, ↓Zc, ↓Zb, ↓vdn, vup, Zl, Zh, Zm, Zo, Zn, List.map_cons, List.map_nil, cond_true, cond_false, aop, Zv, Zq, Zp, ev, sput, Zt, Zz, Yb, unK, Zd, Zw, Nat.reduceBEq, Nat.reduceAdd, Int.reduceBEq, Int.reduceBNe, Int.reduceLT, Zu, Ya, tup, tyf, lenK, e0, Yx, List.nil_append, List.append_nil, List.toList_toArray, List.cons_append]
      exact awake_call.mono fun _ _ h => h.1
    simp (maxSteps := 2000000) only [s11, ↓Za, ↓Zk, ↓Zr, ↓Ze, ↓Zj, ↓Zs, ↓Zg, ↓Zi, ↓Zf, ↓Zc, ↓Zb, ↓vdn, vup, Zl, Zh, Zm, Zo, Zn, List.map_cons, List.map_nil, cond_true, cond_false, aop, Zv, Zq, Zp, ev, sput, Zt, Zz, Yb, unK, Zd, Zw, Nat.reduceBEq, Nat.reduceAdd, Int.reduceBEq, Int.reduceBNe, Int.reduceLT, Zu, Ya, tup, tyf, Yx, List.nil_append, List.append_nil, List.toList_toArray, List.cons_append]
    refine (rrace_call huH hvH (by omega) (by omega)).mono ?_
    rintro _ H ⟨rfl, rfl⟩
    cases hr : raceB xs ys with
    | false =>
      simp (maxSteps := 2000000) only [s11, ↓Za, ↓Zk, ↓Zr, ↓Ze, ↓Zj, ↓Zs, ↓Zg, ↓Zi, ↓Zf, ↓Zc, ↓Zb, ↓vdn, vup, Zl, Zh, Zm, Zo, Zn, List.map_cons, List.map_nil, cond_true, cond_false, aop, Zv, Zq, Zp, ev, sput, Zt, Zz, Yb, unK, Zd, Zw, Nat.reduceBEq, Nat.reduceAdd, Int.reduceBEq, Int.reduceBNe, Int.reduceLT, Zu, Ya, tup, tyf, Bool.not_false]
      exact fin _ (by simp (maxSteps := 2000000) only [↓Za, ↓Zk, ↓Zr, ↓Ze, ↓Zj, ↓Zs, ↓Zg, ↓Zi, ↓Zf, ↓Zc, ↓Zb, ↓vdn, vup, Zl, Zh, Zm, Zo, Zn, List.map_cons, List.map_nil, cond_true, cond_false, aop, Zv, Zq, Zp, ev, sput, Zt, Zz, Yb, unK, Zd, Zw, Nat.reduceBEq, Nat.reduceAdd, Int.reduceBEq, Int.reduceBNe, Int.reduceLT, Zu, Ya, tup, tyf])
    | true =>
      have rc := race_of hr
      have rl := rc.len
      have re := rc.eq
      simp (maxSteps := 2000000) only [s11, ↓Za, ↓Zk, ↓Zr, ↓Ze, ↓Zj, ↓Zs, ↓Zg, ↓Zi, ↓Zf, ↓Zc, ↓Zb, ↓vdn, vup, Zl, Zh, Zm, Zo, Zn, List.map_cons, List.map_nil, cond_true, cond_false, aop, Zv, Zq, Zp, ev, sput, Zt, Zz, Yb, unK, Zd, Zw, Nat.reduceBEq, Nat.reduceAdd, Int.reduceBEq, Int.reduceBNe, Int.reduceLT, Zu, Ya, tup, tyf, Bool.not_true, hvH.len, Yx, List.nil_append, List.append_nil, List.toList_toArray, List.cons_append]
      refine (staking_call hwH (show ys.length ≤ 62 by omega) (by omega) hxp).mono ?_
      rintro _ H ⟨rfl, rfl⟩
      have hd : (decide (ps.length = ys.length) && stB ps) = false := by
        rw [← Bool.not_eq_true, Bool.and_eq_true, decide_eq_true_eq]
        rintro ⟨z1, z2⟩
        exact hc ⟨hr, by omega, z2⟩
      simp (maxSteps := 2000000) only [s11, ↓Za, ↓Zk, ↓Zr, ↓Ze, ↓Zj, ↓Zs, ↓Zg, ↓Zi, ↓Zf, ↓Zc, ↓Zb, ↓vdn, vup, Zl, Zh, Zm, Zo, Zn, List.map_cons, List.map_nil, cond_true, cond_false, aop, Zv, Zq, Zp, ev, sput, Zt, Zz, Yb, unK, Zd, Zw, Nat.reduceBEq, Nat.reduceAdd, Int.reduceBEq, Int.reduceBNe, Int.reduceLT, Zu, Ya, tup, tyf, hd, Bool.not_false]
      exact fin _ (by simp (maxSteps := 2000000) only [↓Za, ↓Zk, ↓Zr, ↓Ze, ↓Zj, ↓Zs, ↓Zg, ↓Zi, ↓Zf, ↓Zc, ↓Zb, ↓vdn, vup, Zl, Zh, Zm, Zo, Zn, List.map_cons, List.map_nil, cond_true, cond_false, aop, Zv, Zq, Zp, ev, sput, Zt, Zz, Yb, unK, Zd, Zw, Nat.reduceBEq, Nat.reduceAdd, Int.reduceBEq, Int.reduceBNe, Int.reduceLT, Zu, Ya, tup, tyf])
end Go.Proofs.Try.Am

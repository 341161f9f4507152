/-
  bets: copies of slices; slices held against each other.
  bets: Sound; that the program is awake.
  bets: law Worth.
  bets: law Grow.
-/
import Derived.Test.YtcmindinomacbaaPk6
import Derived.Test.YtcmindinomacbaaPk7
import Derived.Test.YtcmindinomacbaaPk12
import Derived.Test.YtcmindinomacbaaPk8
import Derived.Test.YtcmindinomacbaaPk10
set_option linter.all false
namespace Go.Proofs.Try.Am
open Go.Am
set_option maxRecDepth 100000
set_option maxHeartbeats 1000000

theorem min8 (n : Nat) : (if (8 : Int) < n then 8 else (n : Int)) = ((min n 8 : Nat) : Int) := by split <;> omega
theorem take_min {α : Type} (l : List α) (k : Nat) : l.take (min l.length k) = l.take k := by
  by_cases h : l.length ≤ k
  · rw [Nat.min_eq_left h, List.take_length, List.take_of_length_le h]
  · rw [Nat.min_eq_right (by omega)]
theorem clone_call [Tabs prog] {h : Yc} {v : Value} {xs : List Int} (hv : IntSl h v xs) (hl : xs.length < 1099511627776) : ACall prog 82 [v] h fun r h' => IntSl h' r xs ∧ Ext (fun _ => False) h h' := by
  refine s82_call (by simp) ?_
  have hv' := hv
  rcases hv with ⟨rfl, rfl⟩ | ⟨b, o, sp, cap, c, e, ro, rfl, hc, hb, hx⟩
  · simp (maxSteps := 2000000) only [s82, ↓Za, ↓Zo, ↓Zr, ↓Ze, ↓Zi, ↓Zs, ↓Zf, ↓Zl, ↓Zg, ↓Zc, ↓Zb, ↓vdn, vup, Zh, Zk, Zm, Zn, Zj, List.map_cons, List.map_nil, cond_true, cond_false, aop, Zv, Zq, Zp, ev, sput, Zt, Zz, Yb, unK, Zd, Zw, Nat.reduceBEq, Nat.reduceAdd, Int.reduceBEq, Int.reduceBNe, Int.reduceLT, Zu, Ya, tup, tyf, Option.isSome_some]
    exact ⟨.inl ⟨rfl, rfl⟩, Ext.refl _ _⟩
  · simp (maxSteps := 2000000) only [s82, ↓Za, ↓Zo, ↓Zr, ↓Ze, ↓Zi, ↓Zs, ↓Zf, ↓Zl, ↓Zg, ↓Zc, ↓Zb, ↓vdn, vup, Zh, Zk, Zm, Zn, Zj, List.map_cons, List.map_nil, cond_true, cond_false, aop, Zv, Zq, Zp, ev, sput, Zt, Zz, Yb, unK, Zd, Zw, Nat.reduceBEq, Nat.reduceAdd, Int.reduceBEq, Int.reduceBNe, Int.reduceLT, Zu, Ya, tup, tyf, Option.isSome_some]
    simp only [Yw, Xu, zero_3, Xp, reps, fillL, mkb, Xk]
    refine And.intro rfl (And.intro Nat.zero_lt_one (And.intro (Nat.zero_le _) ?_))
    refine (hv'.grow [.ints [] 3 false]).copy app_38_38 hl (by rw [List.getElem?_append_right (Nat.le_refl _)]; simp) ?_
    intro r g hr _
    exact ⟨hr, by rw [List.append_assoc]; exact Ext.app _ _ _⟩
theorem list_call [Tabs prog] {h : Yc} {v : Value} {xs : List Int} (hv : IntSl h v xs) : ACall prog 46 [v] h fun r h' => IntSl h' r (xs.take 8) ∧ Ext (fun _ => False) h h' := by
  refine s46_call (by simp) ?_
  simp (maxSteps := 2000000) only [s46, ↓Za, ↓Zo, ↓Zr, ↓Ze, ↓Zi, ↓Zs, ↓Zf, ↓Zl, ↓Zg, ↓Zc, ↓Zb, ↓vdn, vup, Zh, Zk, Zm, Zn, Zj, List.map_cons, List.map_nil, cond_true, cond_false, aop, Zv, Zq, Zp, ev, sput, Zt, Zz, Yb, unK, Zd, Zw, Nat.reduceBEq, Nat.reduceAdd, Int.reduceBEq, Int.reduceBNe, Int.reduceLT, Zu, Ya, tup, tyf, hv.len, mmK, Bool.false_eq_true, if_false, gt_iff_lt, min8, Option.map_none, Option.map_some]
  refine hv.pre Xu Xp (Nat.min_le_left _ _) ?_
  intro v' hv'
  rw [take_min] at hv'
  simp (maxSteps := 2000000) only [↓Za, ↓Zo, ↓Zr, ↓Ze, ↓Zi, ↓Zs, ↓Zf, ↓Zl, ↓Zg, ↓Zc, ↓Zb, ↓vdn, vup, Zh, Zk, Zm, Zn, Zj, List.map_cons, List.map_nil, cond_true, cond_false, aop, Zv, Zq, Zp, ev, sput, Zt, Zz, Yb, unK, Zd, Zw, Nat.reduceBEq, Nat.reduceAdd, Int.reduceBEq, Int.reduceBNe, Int.reduceLT, Zu, Ya, tup, tyf, Yr, List.nil_append, List.append_nil]
  exact clone_call hv' (by simp; omega)

theorem pairs_eq {xs ys : List (Int × Int)} (hl : xs.length = ys.length) (k : Nat) (hk : k ≤ xs.length) (h : ∀ i, i < k → xs.getD i (0, 0) = ys.getD i (0, 0)) (hk2 : k = xs.length) : xs = ys := by
  subst hk2
  apply List.ext_getElem hl
  intro i h1 h2
  have := h i h1
  rwa [List.getD, List.getD, List.getElem?_eq_getElem h1, List.getElem?_eq_getElem h2] at this

theorem s35_callW [Tabs Try.prog] {args : List Value} {h : Yc} {Q : Value → Yc → Prop} (hsz : args.length ≤ 26) (hk : AWS Try.prog 26 s35 (Zu Try.prog [.tmp 4] Q) (Zp 0 args) h) : ACall Try.prog 35 args h Q :=
  Yx Try.func35 rfl (enters_of Try.func35 (by kernel_rfl) rfl) rfl rfl (by decide) s35_strip s35_ok hsz hk
theorem equalF_call [Tabs prog] {h : Yc} {u v : Value} {xs ys : List (Int × Int)} (hu : PairSl h u xs) (hv : PairSl h v ys) (hl : xs.length < 9223372036854775808) : Xa prog 35 [u, v] h (.bool (decide (xs = ys))) := by
  refine s35_callW (by simp) ?_
  simp only [s35]
  refine Zy fun N1 hN1 => ?_
  simp (maxSteps := 2000000) only [s35, ↓Za, ↓Zo, ↓Zr, ↓Ze, ↓Zi, ↓Zs, ↓Zf, ↓Zl, ↓Zg, ↓Zc, ↓Zb, ↓vdn, vup, Zh, Zk, Zm, Zn, Zj, List.map_cons, List.map_nil, cond_true, cond_false, aop, Zv, Zq, Zp, ev, sput, Zt, Zz, Yb, unK, Zd, Zw, Nat.reduceBEq, Nat.reduceAdd, Int.reduceBEq, Int.reduceBNe, Int.reduceLT, Zu, Ya, tup, tyf]
  refine hN1 [(0, u), (1, v), (4, .bool false)] _ _ ?_ (by simp (maxSteps := 2000000) only [↓Za, ↓Zo, ↓Zr, ↓Ze, ↓Zi, ↓Zs, ↓Zf, ↓Zl, ↓Zg, ↓Zc, ↓Zb, ↓vdn, vup, Zh, Zk, Zm, Zn, Zj, List.map_cons, List.map_nil, cond_true, cond_false, aop, Zv, Zq, Zp, ev, sput, Zt, Zz, Yb, unK, Zd, Zw, Nat.reduceBEq, Nat.reduceAdd, Int.reduceBEq, Int.reduceBNe, Int.reduceLT, Zu, Ya, tup, tyf])
  clear hN1
  try clear N1
  by_cases hn : xs.length = ys.length
  · have hne : (((xs.length : Nat) : Int) != ((ys.length : Nat) : Int)) = false := by simp [hn]
    refine Zy fun N2 hN2 => ?_
    simp (maxSteps := 2000000) only [s35, ↓Za, ↓Zo, ↓Zr, ↓Ze, ↓Zi, ↓Zs, ↓Zf, ↓Zl, ↓Zg, ↓Zc, ↓Zb, ↓vdn, vup, Zh, Zk, Zm, Zn, Zj, List.map_cons, List.map_nil, cond_true, cond_false, aop, Zv, Zq, Zp, ev, sput, Zt, Zz, Yb, unK, Zd, Zw, Nat.reduceBEq, Nat.reduceAdd, Int.reduceBEq, Int.reduceBNe, Int.reduceLT, Zu, Ya, tup, tyf, hu.len, hv.len, hne]
    refine hN2 [(0, u), (1, v), (4, .bool false)] _ _ ?_ (by simp (maxSteps := 2000000) only [↓Za, ↓Zo, ↓Zr, ↓Ze, ↓Zi, ↓Zs, ↓Zf, ↓Zl, ↓Zg, ↓Zc, ↓Zb, ↓vdn, vup, Zh, Zk, Zm, Zn, Zj, List.map_cons, List.map_nil, cond_true, cond_false, aop, Zv, Zq, Zp, ev, sput, Zt, Zz, Yb, unK, Zd, Zw, Nat.reduceBEq, Nat.reduceAdd, Int.reduceBEq, Int.reduceBNe, Int.reduceLT, Zu, Ya, tup, tyf])
    clear hN2
    try clear N2
    refine Ye fun Z hZ => ?_
    refine Zy fun N3 hN3 => ?_
    simp (maxSteps := 2000000) only [s35, ↓Za, ↓Zo, ↓Zr, ↓Ze, ↓Zi, ↓Zs, ↓Zf, ↓Zl, ↓Zg, ↓Zc, ↓Zb, ↓vdn, vup, Zh, Zk, Zm, Zn, Zj, List.map_cons, List.map_nil, cond_true, cond_false, aop, Zv, Zq, Zp, ev, sput, Zt, Zz, Yb, unK, Zd, Zw, Nat.reduceBEq, Nat.reduceAdd, Int.reduceBEq, Int.reduceBNe, Int.reduceLT, Zu, Ya, tup, tyf, hu.len]
    refine hN3 [(0, u), (1, v), (4, .bool false), (11, u), (12, Zx xs.length), (13, .int .i64 0)] _ _ ?_ (by simp (maxSteps := 2000000) only [↓Za, ↓Zo, ↓Zr, ↓Ze, ↓Zi, ↓Zs, ↓Zf, ↓Zl, ↓Zg, ↓Zc, ↓Zb, ↓vdn, vup, Zh, Zk, Zm, Zn, Zj, List.map_cons, List.map_nil, cond_true, cond_false, aop, Zv, Zq, Zp, ev, sput, Zt, Zz, Yb, unK, Zd, Zw, Nat.reduceBEq, Nat.reduceAdd, Int.reduceBEq, Int.reduceBNe, Int.reduceLT, Zu, Ya, tup, tyf])
    clear hN3
    try clear N3
    refine Yf ?_
    refine Yh fun Q hQ => ?_
    refine Yv (γ := Nat) (fun k => k ≤ xs.length ∧ ∀ i, i < k → xs.getD i (0, 0) = ys.getD i (0, 0))
      (fun k => ([(0, u), (1, v), (4, .bool false), (11, u), (12, Zx xs.length), (13, Zx (k : Nat))], h)) (fun k => xs.length - k) 0 ⟨Nat.zero_le _, fun i hi => by omega⟩ (by simp (maxSteps := 2000000) only [↓Za, ↓Zo, ↓Zr, ↓Ze, ↓Zi, ↓Zs, ↓Zf, ↓Zl, ↓Zg, ↓Zc, ↓Zb, ↓vdn, vup, Zh, Zk, Zm, Zn, Zj, List.map_cons, List.map_nil, cond_true, cond_false, aop, Zv, Zq, Zp, ev, sput, Zt, Zz, Yb, unK, Zd, Zw, Nat.reduceBEq, Nat.reduceAdd, Int.reduceBEq, Int.reduceBNe, Int.reduceLT, Zu, Ya, tup, tyf, Int.natCast_zero]) rfl ?_
    rintro k ⟨hk, hall⟩
    refine Yh fun Q2 hQ2 => ?_
    simp only [l35_0]
    by_cases hin : (k : Int) < xs.length
    · have hk' : k < xs.length := by omega
      have hky : k < ys.length := by omega
      refine Zy fun N4 hN4 => ?_
      simp (maxSteps := 2000000) only [s35, ↓Za, ↓Zo, ↓Zr, ↓Ze, ↓Zi, ↓Zs, ↓Zf, ↓Zl, ↓Zg, ↓Zc, ↓Zb, ↓vdn, vup, Zh, Zk, Zm, Zn, Zj, List.map_cons, List.map_nil, cond_true, cond_false, aop, Zv, Zq, Zp, ev, sput, Zt, Zz, Yb, unK, Zd, Zw, Nat.reduceBEq, Nat.reduceAdd, Int.reduceBEq, Int.reduceBNe, Int.reduceLT, Zu, Ya, tup, tyf, hin]
      refine hN4 [(0, u), (1, v), (4, .bool false), (11, u), (12, Zx xs.length), (13, Zx (k : Nat)), (14, .bool true)] _ _ ?_ (by simp (maxSteps := 2000000) only [↓Za, ↓Zo, ↓Zr, ↓Ze, ↓Zi, ↓Zs, ↓Zf, ↓Zl, ↓Zg, ↓Zc, ↓Zb, ↓vdn, vup, Zh, Zk, Zm, Zn, Zj, List.map_cons, List.map_nil, cond_true, cond_false, aop, Zv, Zq, Zp, ev, sput, Zt, Zz, Yb, unK, Zd, Zw, Nat.reduceBEq, Nat.reduceAdd, Int.reduceBEq, Int.reduceBNe, Int.reduceLT, Zu, Ya, tup, tyf])
      clear hN4
      try clear N4
      refine Zy fun N5 hN5 => ?_
      simp (maxSteps := 2000000) only [s35, ↓Za, ↓Zo, ↓Zr, ↓Ze, ↓Zi, ↓Zs, ↓Zf, ↓Zl, ↓Zg, ↓Zc, ↓Zb, ↓vdn, vup, Zh, Zk, Zm, Zn, Zj, List.map_cons, List.map_nil, cond_true, cond_false, aop, Zv, Zq, Zp, ev, sput, Zt, Zz, Yb, unK, Zd, Zw, Nat.reduceBEq, Nat.reduceAdd, Int.reduceBEq, Int.reduceBNe, Int.reduceLT, Zu, Ya, tup, tyf]
      refine hN5 [(0, u), (1, v), (4, .bool false), (11, u), (12, Zx xs.length), (13, Zx (k : Nat))] _ _ ?_ (by simp (maxSteps := 2000000) only [↓Za, ↓Zo, ↓Zr, ↓Ze, ↓Zi, ↓Zs, ↓Zf, ↓Zl, ↓Zg, ↓Zc, ↓Zb, ↓vdn, vup, Zh, Zk, Zm, Zn, Zj, List.map_cons, List.map_nil, cond_true, cond_false, aop, Zv, Zq, Zp, ev, sput, Zt, Zz, Yb, unK, Zd, Zw, Nat.reduceBEq, Nat.reduceAdd, Int.reduceBEq, Int.reduceBNe, Int.reduceLT, Zu, Ya, tup, tyf])
      clear hN5
      try clear N5
      refine Ye fun B hB => ?_
      refine Yf ?_
      refine Zy fun N6 hN6 => ?_
      simp (maxSteps := 2000000) only [s35, ↓Za, ↓Zo, ↓Zr, ↓Ze, ↓Zi, ↓Zs, ↓Zf, ↓Zl, ↓Zg, ↓Zc, ↓Zb, ↓vdn, vup, Zh, Zk, Zm, Zn, Zj, List.map_cons, List.map_nil, cond_true, cond_false, aop, Zv, Zq, Zp, ev, sput, Zt, Zz, Yb, unK, Zd, Zw, Nat.reduceBEq, Nat.reduceAdd, Int.reduceBEq, Int.reduceBNe, Int.reduceLT, Zu, Ya, tup, tyf]
      refine hN6 [(0, u), (1, v), (4, .bool false), (5, Zx (k : Nat)), (11, u), (12, Zx xs.length), (13, Zx (k : Nat))] _ _ ?_ (by simp (maxSteps := 2000000) only [↓Za, ↓Zo, ↓Zr, ↓Ze, ↓Zi, ↓Zs, ↓Zf, ↓Zl, ↓Zg, ↓Zc, ↓Zb, ↓vdn, vup, Zh, Zk, Zm, Zn, Zj, List.map_cons, List.map_nil, cond_true, cond_false, aop, Zv, Zq, Zp, ev, sput, Zt, Zz, Yb, unK, Zd, Zw, Nat.reduceBEq, Nat.reduceAdd, Int.reduceBEq, Int.reduceBNe, Int.reduceLT, Zu, Ya, tup, tyf])
      clear hN6
      try clear N6
      obtain ⟨⟨x, y⟩, hxy⟩ : ∃ p, xs.getD k (0, 0) = p := ⟨_, rfl⟩
      obtain ⟨⟨z, w⟩, hzw⟩ : ∃ p, ys.getD k (0, 0) = p := ⟨_, rfl⟩
      refine Yd ?_
      simp only [q35_6]
      refine aw_cut fun D hD => ?_
      refine Xd [] (by kernel_rfl) (by kernel_rfl) (by kernel_rfl) (by kernel_rfl) ?_
      simp (maxSteps := 2000000) only [s35, ↓Za, ↓Zo, ↓Zr, ↓Ze, ↓Zi, ↓Zs, ↓Zf, ↓Zl, ↓Zg, ↓Zc, ↓Zb, ↓vdn, vup, Zh, Zk, Zm, Zn, Zj, List.map_cons, List.map_nil, cond_true, cond_false, aop, Zv, Zq, Zp, ev, sput, Zt, Zz, Yb, unK, Zd, Zw, Nat.reduceBEq, Nat.reduceAdd, Int.reduceBEq, Int.reduceBNe, Int.reduceLT, Zu, Ya, tup, tyf, hu.idx el_47 Vm hk', hu.load shp_26 hk', hv.idx el_47 Vm hky, hv.load shp_26 hky, hxy, hzw, Xk, Option.map_some, List.length_cons, List.length_nil, Nat.zero_add, eqF]
      refine hD _ _ ?_
      by_cases he : x = z ∧ y = w
      · obtain ⟨rfl, rfl⟩ := he
        have hb : (([x, y] : List Int) != [x, y]) = false := by simp
        simp (maxSteps := 2000000) only [s35, ↓Za, ↓Zo, ↓Zr, ↓Ze, ↓Zi, ↓Zs, ↓Zf, ↓Zl, ↓Zg, ↓Zc, ↓Zb, ↓vdn, vup, Zh, Zk, Zm, Zn, Zj, List.map_cons, List.map_nil, cond_true, cond_false, aop, Zv, Zq, Zp, ev, sput, Zt, Zz, Yb, unK, Zd, Zw, Nat.reduceBEq, Nat.reduceAdd, Int.reduceBEq, Int.reduceBNe, Int.reduceLT, Zu, Ya, tup, tyf, hb]
        refine hB [(0, u), (1, v), (4, .bool false), (11, u), (12, Zx xs.length), (13, Zx (k : Nat))] _ _ ?_ (by simp (maxSteps := 2000000) only [↓Za, ↓Zo, ↓Zr, ↓Ze, ↓Zi, ↓Zs, ↓Zf, ↓Zl, ↓Zg, ↓Zc, ↓Zb, ↓vdn, vup, Zh, Zk, Zm, Zn, Zj, List.map_cons, List.map_nil, cond_true, cond_false, aop, Zv, Zq, Zp, ev, sput, Zt, Zz, Yb, unK, Zd, Zw, Nat.reduceBEq, Nat.reduceAdd, Int.reduceBEq, Int.reduceBNe, Int.reduceLT, Zu, Ya, tup, tyf])
        clear hB
        try clear B
        refine Yd ?_
        simp (maxSteps := 2000000) only [s35, ↓Za, ↓Zo, ↓Zr, ↓Ze, ↓Zi, ↓Zs, ↓Zf, ↓Zl, ↓Zg, ↓Zc, ↓Zb, ↓vdn, vup, Zh, Zk, Zm, Zn, Zj, List.map_cons, List.map_nil, cond_true, cond_false, aop, Zv, Zq, Zp, ev, sput, Zt, Zz, Yb, unK, Zd, Zw, Nat.reduceBEq, Nat.reduceAdd, Int.reduceBEq, Int.reduceBNe, Int.reduceLT, Zu, Ya, tup, tyf, add1 (show k < 9223372036854775807 by omega)]
        refine hQ2 _ _ _ ⟨k + 1, ⟨hk', fun i hi => ?_⟩, by omega, by simp (maxSteps := 2000000) only [↓Za, ↓Zo, ↓Zr, ↓Ze, ↓Zi, ↓Zs, ↓Zf, ↓Zl, ↓Zg, ↓Zc, ↓Zb, ↓vdn, vup, Zh, Zk, Zm, Zn, Zj, List.map_cons, List.map_nil, cond_true, cond_false, aop, Zv, Zq, Zp, ev, sput, Zt, Zz, Yb, unK, Zd, Zw, Nat.reduceBEq, Nat.reduceAdd, Int.reduceBEq, Int.reduceBNe, Int.reduceLT, Zu, Ya, tup, tyf], rfl⟩
        rcases Nat.lt_or_ge i k with h1 | h1
        · exact hall i h1
        · rw [show i = k by omega, hxy, hzw]
      · have hb : (([x, y] : List Int) != [z, w]) = true := by
          simp only [bne, Bool.not_eq_true', beq_eq_false_iff_ne, ne_eq, List.cons.injEq, and_true]
          exact he
        simp (maxSteps := 2000000) only [s35, ↓Za, ↓Zo, ↓Zr, ↓Ze, ↓Zi, ↓Zs, ↓Zf, ↓Zl, ↓Zg, ↓Zc, ↓Zb, ↓vdn, vup, Zh, Zk, Zm, Zn, Zj, List.map_cons, List.map_nil, cond_true, cond_false, aop, Zv, Zq, Zp, ev, sput, Zt, Zz, Yb, unK, Zd, Zw, Nat.reduceBEq, Nat.reduceAdd, Int.reduceBEq, Int.reduceBNe, Int.reduceLT, Zu, Ya, tup, tyf, hb]
        refine hQ2 _ _ _ (hQ _ _ _ ?_)
        have hd : decide (xs = ys) = false := by
          rw [decide_eq_false_iff_not]
          rintro rfl
          rw [hxy] at hzw
          exact he (Prod.mk.inj hzw)
        simp (maxSteps := 2000000) only [s35, ↓Za, ↓Zo, ↓Zr, ↓Ze, ↓Zi, ↓Zs, ↓Zf, ↓Zl, ↓Zg, ↓Zc, ↓Zb, ↓vdn, vup, Zh, Zk, Zm, Zn, Zj, List.map_cons, List.map_nil, cond_true, cond_false, aop, Zv, Zq, Zp, ev, sput, Zt, Zz, Yb, unK, Zd, Zw, Nat.reduceBEq, Nat.reduceAdd, Int.reduceBEq, Int.reduceBNe, Int.reduceLT, Zu, Ya, tup, tyf, hd]
    · obtain rfl : k = xs.length := by omega
      refine Zy fun N7 hN7 => ?_
      simp (maxSteps := 2000000) only [s35, ↓Za, ↓Zo, ↓Zr, ↓Ze, ↓Zi, ↓Zs, ↓Zf, ↓Zl, ↓Zg, ↓Zc, ↓Zb, ↓vdn, vup, Zh, Zk, Zm, Zn, Zj, List.map_cons, List.map_nil, cond_true, cond_false, aop, Zv, Zq, Zp, ev, sput, Zt, Zz, Yb, unK, Zd, Zw, Nat.reduceBEq, Nat.reduceAdd, Int.reduceBEq, Int.reduceBNe, Int.reduceLT, Zu, Ya, tup, tyf, hin]
      refine hN7 [(0, u), (1, v), (4, .bool false), (11, u), (12, Zx xs.length), (13, Zx xs.length), (14, .bool false)] _ _ ?_ (by simp (maxSteps := 2000000) only [↓Za, ↓Zo, ↓Zr, ↓Ze, ↓Zi, ↓Zs, ↓Zf, ↓Zl, ↓Zg, ↓Zc, ↓Zb, ↓vdn, vup, Zh, Zk, Zm, Zn, Zj, List.map_cons, List.map_nil, cond_true, cond_false, aop, Zv, Zq, Zp, ev, sput, Zt, Zz, Yb, unK, Zd, Zw, Nat.reduceBEq, Nat.reduceAdd, Int.reduceBEq, Int.reduceBNe, Int.reduceLT, Zu, Ya, tup, tyf])
      clear hN7
      try clear N7
      refine Zy fun N8 hN8 => ?_
      simp (maxSteps := 2000000) only [s35, ↓Za, ↓Zo, ↓Zr, ↓Ze, ↓Zi, ↓Zs, ↓Zf, ↓Zl, ↓Zg, ↓Zc, ↓Zb, ↓vdn, vup, Zh, Zk, Zm, Zn, Zj, List.map_cons, List.map_nil, cond_true, cond_false, aop, Zv, Zq, Zp, ev, sput, Zt, Zz, Yb, unK, Zd, Zw, Nat.reduceBEq, Nat.reduceAdd, Int.reduceBEq, Int.reduceBNe, Int.reduceLT, Zu, Ya, tup, tyf]
      refine hQ2 _ _ _ (hQ _ _ _ ?_)
      simp (maxSteps := 2000000) only [s35, ↓Za, ↓Zo, ↓Zr, ↓Ze, ↓Zi, ↓Zs, ↓Zf, ↓Zl, ↓Zg, ↓Zc, ↓Zb, ↓vdn, vup, Zh, Zk, Zm, Zn, Zj, List.map_cons, List.map_nil, cond_true, cond_false, aop, Zv, Zq, Zp, ev, sput, Zt, Zz, Yb, unK, Zd, Zw, Nat.reduceBEq, Nat.reduceAdd, Int.reduceBEq, Int.reduceBNe, Int.reduceLT, Zu, Ya, tup, tyf, if_true]
      refine hZ [(0, u), (1, v), (4, .bool false), (11, u), (12, Zx xs.length), (13, Zx xs.length), (14, .bool false)] _ _ ?_ (by simp (maxSteps := 2000000) only [↓Za, ↓Zo, ↓Zr, ↓Ze, ↓Zi, ↓Zs, ↓Zf, ↓Zl, ↓Zg, ↓Zc, ↓Zb, ↓vdn, vup, Zh, Zk, Zm, Zn, Zj, List.map_cons, List.map_nil, cond_true, cond_false, aop, Zv, Zq, Zp, ev, sput, Zt, Zz, Yb, unK, Zd, Zw, Nat.reduceBEq, Nat.reduceAdd, Int.reduceBEq, Int.reduceBNe, Int.reduceLT, Zu, Ya, tup, tyf])
      clear hZ
      try clear Z
      refine Yd ?_
      have hd : decide (xs = ys) = true := by
        rw [decide_eq_true_eq]; exact pairs_eq hn _ (Nat.le_refl _) hall rfl
      simp (maxSteps := 2000000) only [s35, ↓Za, ↓Zo, ↓Zr, ↓Ze, ↓Zi, ↓Zs, ↓Zf, ↓Zl, ↓Zg, ↓Zc, ↓Zb, ↓vdn, vup, Zh, Zk, Zm, Zn, Zj, List.map_cons, List.map_nil, cond_true, cond_false, aop, Zv, Zq, Zp, ev, sput, Zt, Zz, Yb, unK, Zd, Zw, Nat.reduceBEq, Nat.reduceAdd, Int.reduceBEq, Int.reduceBNe, Int.reduceLT, Zu, Ya, tup, tyf, hd]
  · have hne : (((xs.length : Nat) : Int) != ((ys.length : Nat) : Int)) = true := by
      have : ¬ ((xs.length : Nat) : Int) = ((ys.length : Nat) : Int) := by omega
      simpa [bne] using this
    refine Yd ?_
    have hd : decide (xs = ys) = false := by
      rw [decide_eq_false_iff_not]
      rintro rfl; exact hn rfl
    simp (maxSteps := 2000000) only [s35, ↓Za, ↓Zo, ↓Zr, ↓Ze, ↓Zi, ↓Zs, ↓Zf, ↓Zl, ↓Zg, ↓Zc, ↓Zb, ↓vdn, vup, Zh, Zk, Zm, Zn, Zj, List.map_cons, List.map_nil, cond_true, cond_false, aop, Zv, Zq, Zp, ev, sput, Zt, Zz, Yb, unK, Zd, Zw, Nat.reduceBEq, Nat.reduceAdd, Int.reduceBEq, Int.reduceBNe, Int.reduceLT, Zu, Ya, tup, tyf, hu.len, hv.len, hne, hd]
end Go.Proofs.Try.Am

namespace Go.Proofs.Try.Am
open Go.Am Bq
set_option maxRecDepth 100000
set_option maxHeartbeats 2000000

theorem pairSl_shape {h : Yc} {v : Value} {l : List (Int × Int)} (hv : PairSl h v l) : ∃ p n c, v = .slice p n c := by
  rcases hv with ⟨rfl, _⟩ | ⟨b, o, sp, cap, c, e, ro, rfl, _⟩
  · exact ⟨_, _, _, rfl⟩
  · exact ⟨_, _, _, rfl⟩
theorem bldT {n : Int} {p : Option Addr} {m c : Nat} {K : Value → Prop} : buildK prog 86 [(0, Zx n), (1, .slice p m c)] K = K (.agg #[Zx n, .slice p m c]) := by
  simp [buildK, zero_86, fillL, pl_86_0, pl_86_1, Wv, cellsOf, Yn]
theorem storeT {h : Yc} {b : Nat} {n : Int} {p : Option Addr} {m k : Nat} {e : TypeId} {c : List Value} {K : Yc → Prop} (hb : h[b]? = some (.cells c e false)) (hc : c.length = 2) : Xj prog h 86 (.pointer (some ⟨b, 0, none⟩)) (.agg #[Zx n, .slice p m k]) K = K (h.set b (.cells [Zx n, .slice p m k] e false)) :=
  storeA (vs := [Zx n, .slice p m k]) hb (by rw [shp_86]; rfl) rfl (by rw [hc]; rfl)
theorem loadT {h : Yc} {b : Nat} {n : Int} {v : Value} {K : Value → Prop} (hb : h[b]? = some (.cells [Zx n, v] 86 false)) : Xy prog h 86 (.pointer (some ⟨b, 0, none⟩)) K = K (.agg #[Zx n, v]) :=
  loadA hb (by rw [shp_86]; rfl)

/-- What Sound hands back. -/
def SoundIs (n : Int) (l : List (Int × Int)) (h' : Yc) (x : Value) (e : Int) : Prop :=
  if Vo n l = true then (match cornersB n.toNat l with | [] => x = .slice none 0 0 ∧ e = 5 | c :: _ => e = 0 ∧ BelAt h' x c) else x = .slice none 0 0 ∧ e = 2
theorem s36_callW [Tabs Try.prog] {args : List Value} {h : Yc} {Q : Value → Yc → Prop} (hsz : args.length ≤ 22) (hk : AWS Try.prog 22 s36 (Zu Try.prog [.tmp 4, .tmp 5] Q) (Zp 0 args) h) : ACall Try.prog 36 args h Q :=
  Yx Try.func36 rfl (enters_of Try.func36 (by kernel_rfl) rfl) rfl rfl (by decide) s36_strip s36_ok hsz hk
theorem sound_call [Tabs prog] {h : Yc} {n : Int} {v : Value} {l : List (Int × Int)} (hv : PairSl h v l) (hl : l.length < 9223372036854775808) (ht : Vo n l = true → TameAll n.toNat l) :
    ACall prog 36 [Zx n, v] h fun r h' => Ext (fun _ => False) h h' ∧ ∃ x e, r = .tuple #[x, .int .i64 e] ∧ SoundIs n l h' x e := by
  obtain ⟨p, m, c, rfl⟩ := pairSl_shape hv
  obtain ⟨H, hH⟩ : ∃ H, H = h ++ [Blk.cells [Zx n, .slice p m c] 86 false] := ⟨_, rfl⟩
  have hE : Ext (fun _ => False) h H := by rw [hH]; exact Ext.app _ _ _
  have b6 : H[h.length]? = some (.cells [Zx n, .slice p m c] 86 false) := by rw [hH]; exact Xb _ _
  have hvH := hv.ext hE
  refine s36_callW (by simp) ?_
  simp only [s36]
  refine Zy fun N1 hN1 => ?_
  simp (maxSteps := 2000000) only [s36, ↓Za, ↓Zo, ↓Zr, ↓Ze, ↓Zi, ↓Zs, ↓Zf, ↓Zl, ↓Zg, ↓Zc, ↓Zb, ↓vdn, vup, Zh, Zk, Zm, Zn, Zj, List.map_cons, List.map_nil, cond_true, cond_false, aop, Zv, Zq, Zp, ev, sput, Zt, Zz, Yb, unK, Zd, Zw, Nat.reduceBEq, Nat.reduceAdd, Int.reduceBEq, Int.reduceBNe, Int.reduceLT, Zu, Ya, tup, tyf]
  refine hN1 [(0, Zx n), (1, .slice p m c), (4, .slice none 0 0), (5, .int .i64 0)] _ _ ?_ (by simp (maxSteps := 2000000) only [↓Za, ↓Zo, ↓Zr, ↓Ze, ↓Zi, ↓Zs, ↓Zf, ↓Zl, ↓Zg, ↓Zc, ↓Zb, ↓vdn, vup, Zh, Zk, Zm, Zn, Zj, List.map_cons, List.map_nil, cond_true, cond_false, aop, Zv, Zq, Zp, ev, sput, Zt, Zz, Yb, unK, Zd, Zw, Nat.reduceBEq, Nat.reduceAdd, Int.reduceBEq, Int.reduceBNe, Int.reduceLT, Zu, Ya, tup, tyf])
  clear hN1
  try clear N1
  refine Zy fun N2 hN2 => ?_
  simp (maxSteps := 2000000) only [s36, ↓Za, ↓Zo, ↓Zr, ↓Ze, ↓Zi, ↓Zs, ↓Zf, ↓Zl, ↓Zg, ↓Zc, ↓Zb, ↓vdn, vup, Zh, Zk, Zm, Zn, Zj, List.map_cons, List.map_nil, cond_true, cond_false, aop, Zv, Zq, Zp, ev, sput, Zt, Zz, Yb, unK, Zd, Zw, Nat.reduceBEq, Nat.reduceAdd, Int.reduceBEq, Int.reduceBNe, Int.reduceLT, Zu, Ya, tup, tyf, List.map_toArray, bldT, Xw, Xe, zero_86, storeT (Xb h (.cells [.int .i64 0, .slice none 0 0] 86 false)) rfl, Wp]
  rw [← hH]
  refine hN2 [(4, .slice none 0 0), (5, .int .i64 0), (6, .pointer (some ⟨h.length, 0, none⟩))] _ _ ?_ (by simp (maxSteps := 2000000) only [↓Za, ↓Zo, ↓Zr, ↓Ze, ↓Zi, ↓Zs, ↓Zf, ↓Zl, ↓Zg, ↓Zc, ↓Zb, ↓vdn, vup, Zh, Zk, Zm, Zn, Zj, List.map_cons, List.map_nil, cond_true, cond_false, aop, Zv, Zq, Zp, ev, sput, Zt, Zz, Yb, unK, Zd, Zw, Nat.reduceBEq, Nat.reduceAdd, Int.reduceBEq, Int.reduceBNe, Int.reduceLT, Zu, Ya, tup, tyf])
  clear hN2
  try clear N2
  refine Ye fun M hM => ?_
  refine Zy fun N3 hN3 => ?_
  simp (maxSteps := 2000000) only [s36, ↓Za, ↓Zo, ↓Zr, ↓Ze, ↓Zi, ↓Zs, ↓Zf, ↓Zl, ↓Zg, ↓Zc, ↓Zb, ↓vdn, vup, Zh, Zk, Zm, Zn, Zj, List.map_cons, List.map_nil, cond_true, cond_false, aop, Zv, Zq, Zp, ev, sput, Zt, Zz, Yb, unK, Zd, Zw, Nat.reduceBEq, Nat.reduceAdd, Int.reduceBEq, Int.reduceBNe, Int.reduceLT, Zu, Ya, tup, tyf, Yr, List.nil_append, List.append_nil, List.toList_toArray, List.cons_append, loadT b6]
  refine (valid_call hvH hl).mono ?_
  rintro _ H ⟨rfl, rfl⟩
  refine hN3 [(4, .slice none 0 0), (5, .int .i64 0), (6, .pointer (some ⟨h.length, 0, none⟩)), (13, .bool (!Vo n l))] _ _ ?_ (by simp (maxSteps := 2000000) only [↓Za, ↓Zo, ↓Zr, ↓Ze, ↓Zi, ↓Zs, ↓Zf, ↓Zl, ↓Zg, ↓Zc, ↓Zb, ↓vdn, vup, Zh, Zk, Zm, Zn, Zj, List.map_cons, List.map_nil, cond_true, cond_false, aop, Zv, Zq, Zp, ev, sput, Zt, Zz, Yb, unK, Zd, Zw, Nat.reduceBEq, Nat.reduceAdd, Int.reduceBEq, Int.reduceBNe, Int.reduceLT, Zu, Ya, tup, tyf])
  clear hN3
  try clear N3
  cases hval : Vo n l with
  | false =>
    refine Wc rfl ?_
    refine Yd ?_
    simp (maxSteps := 2000000) only [s36, ↓Za, ↓Zo, ↓Zr, ↓Ze, ↓Zi, ↓Zs, ↓Zf, ↓Zl, ↓Zg, ↓Zc, ↓Zb, ↓vdn, vup, Zh, Zk, Zm, Zn, Zj, List.map_cons, List.map_nil, cond_true, cond_false, aop, Zv, Zq, Zp, ev, sput, Zt, Zz, Yb, unK, Zd, Zw, Nat.reduceBEq, Nat.reduceAdd, Int.reduceBEq, Int.reduceBNe, Int.reduceLT, Zu, Ya, tup, tyf]
    exact ⟨hE, _, _, rfl, by rw [SoundIs, if_neg (by simp [hval])]; exact ⟨rfl, rfl⟩⟩
  | true =>
    refine Xs rfl ?_
    refine Yd ?_
    simp (maxSteps := 2000000) only [s36, ↓Za, ↓Zo, ↓Zr, ↓Ze, ↓Zi, ↓Zs, ↓Zf, ↓Zl, ↓Zg, ↓Zc, ↓Zb, ↓vdn, vup, Zh, Zk, Zm, Zn, Zj, List.map_cons, List.map_nil, cond_true, cond_false, aop, Zv, Zq, Zp, ev, sput, Zt, Zz, Yb, unK, Zd, Zw, Nat.reduceBEq, Nat.reduceAdd, Int.reduceBEq, Int.reduceBNe, Int.reduceLT, Zu, Ya, tup, tyf]
    refine hM [(4, .slice none 0 0), (5, .int .i64 0), (6, .pointer (some ⟨h.length, 0, none⟩))] _ _ ?_ (by simp (maxSteps := 2000000) only [↓Za, ↓Zo, ↓Zr, ↓Ze, ↓Zi, ↓Zs, ↓Zf, ↓Zl, ↓Zg, ↓Zc, ↓Zb, ↓vdn, vup, Zh, Zk, Zm, Zn, Zj, List.map_cons, List.map_nil, cond_true, cond_false, aop, Zv, Zq, Zp, ev, sput, Zt, Zz, Yb, unK, Zd, Zw, Nat.reduceBEq, Nat.reduceAdd, Int.reduceBEq, Int.reduceBNe, Int.reduceLT, Zu, Ya, tup, tyf])
    clear hM
    try clear M
    have hn : n = (n.toNat : Int) := by
      simp only [Vo, Bool.and_eq_true, decide_eq_true_eq] at hval; omega
    have hcor := corners_call (n := n.toNat) hvH (by rw [← hn]; exact hval) (ht hval)
    rw [← hn] at hcor
    refine Zy fun N4 hN4 => ?_
    simp (maxSteps := 2000000) only [s36, ↓Za, ↓Zo, ↓Zr, ↓Ze, ↓Zi, ↓Zs, ↓Zf, ↓Zl, ↓Zg, ↓Zc, ↓Zb, ↓vdn, vup, Zh, Zk, Zm, Zn, Zj, List.map_cons, List.map_nil, cond_true, cond_false, aop, Zv, Zq, Zp, ev, sput, Zt, Zz, Yb, unK, Zd, Zw, Nat.reduceBEq, Nat.reduceAdd, Int.reduceBEq, Int.reduceBNe, Int.reduceLT, Zu, Ya, tup, tyf, Yr, List.nil_append, List.append_nil, List.toList_toArray, List.cons_append, loadT b6]
    refine (hcor).mono ?_
    rintro r H1 ⟨hE1, ⟨ws, hor, heach⟩, hb⟩
    refine hN4 [(4, .slice none 0 0), (5, .int .i64 0), (6, .pointer (some ⟨h.length, 0, none⟩)), (7, r)] _ _ ?_ (by simp (maxSteps := 2000000) only [↓Za, ↓Zo, ↓Zr, ↓Ze, ↓Zi, ↓Zs, ↓Zf, ↓Zl, ↓Zg, ↓Zc, ↓Zb, ↓vdn, vup, Zh, Zk, Zm, Zn, Zj, List.map_cons, List.map_nil, cond_true, cond_false, aop, Zv, Zq, Zp, ev, sput, Zt, Zz, Yb, unK, Zd, Zw, Nat.reduceBEq, Nat.reduceAdd, Int.reduceBEq, Int.reduceBNe, Int.reduceLT, Zu, Ya, tup, tyf])
    clear hN4
    try clear N4
    have hEE := hE.trans hE1
    have hlen := heach.len
    refine Yd ?_
    have his : ∀ x e, SoundIs n l H1 x e ↔ (match cornersB n.toNat l with | [] => x = .slice none 0 0 ∧ e = 5 | c :: _ => e = 0 ∧ BelAt H1 x c) := fun x e => by rw [SoundIs, if_pos hval]
    cases hc : cornersB n.toNat l with
    | nil =>
      rw [hc] at hlen heach
      have h0 : (((ws.length : Nat) : Int) == 0) = true := by simp [hlen]
      simp (maxSteps := 2000000) only [s36, ↓Za, ↓Zo, ↓Zr, ↓Ze, ↓Zi, ↓Zs, ↓Zf, ↓Zl, ↓Zg, ↓Zc, ↓Zb, ↓vdn, vup, Zh, Zk, Zm, Zn, Zj, List.map_cons, List.map_nil, cond_true, cond_false, aop, Zv, Zq, Zp, ev, sput, Zt, Zz, Yb, unK, Zd, Zw, Nat.reduceBEq, Nat.reduceAdd, Int.reduceBEq, Int.reduceBNe, Int.reduceLT, Zu, Ya, tup, tyf, hor.val.len, h0]
      exact ⟨hEE, _, _, rfl, (his _ _).2 (by rw [hc]; exact ⟨rfl, rfl⟩)⟩
    | cons c0 cs =>
      rw [hc] at hlen heach
      have hpos : 0 < ws.length := by rw [hlen]; simp
      have h0 : (((ws.length : Nat) : Int) == 0) = false := beq_eq_false_iff_ne.2 (by omega)
      have hi0 : ∀ K : Value → Prop, Xf prog 88 r (.int .i64 0) K = K (Vi r 1 0) := fun K => by
        have := hor.val.idx el_88 esz_90 (k := .i64) hpos K
        simpa using this
      simp (maxSteps := 2000000) only [s36, ↓Za, ↓Zo, ↓Zr, ↓Ze, ↓Zi, ↓Zs, ↓Zf, ↓Zl, ↓Zg, ↓Zc, ↓Zb, ↓vdn, vup, Zh, Zk, Zm, Zn, Zj, List.map_cons, List.map_nil, cond_true, cond_false, aop, Zv, Zq, Zp, ev, sput, Zt, Zz, Yb, unK, Zd, Zw, Nat.reduceBEq, Nat.reduceAdd, Int.reduceBEq, Int.reduceBNe, Int.reduceLT, Zu, Ya, tup, tyf, hor.val.len, h0, hi0, hor.val.load shp_90 hpos]
      have hbel := heach.get undef [] (k := 0) (by simp)
      exact ⟨hEE, _, _, rfl, (his _ _).2 (by rw [hc]; exact ⟨rfl, hbel⟩)⟩

theorem s21_callW [Tabs Try.prog] {args : List Value} {h : Yc} {Q : Value → Yc → Prop} (hsz : args.length ≤ 18) (hk : AWS Try.prog 18 s21 (Zu Try.prog [.tmp 0] Q) (Zp 0 args) h) : ACall Try.prog 21 args h Q :=
  Yx Try.func21 rfl (enters_of Try.func21 (by kernel_rfl) rfl) rfl rfl (by decide) s21_strip s21_ok hsz hk
theorem awake_call [Tabs prog] {h : Yc} : Xa prog 21 [] h (.bool true) := by
  refine ACall.forget (Low.bool _) ?_
  refine s21_callW (by simp) ?_
  simp only [s21]
  have bldB : ∀ {x y : Int} {K : Value → Prop}, buildK prog 92 [(0, Zx x), (1, Zx y)] K = K (.agg #[Zx x, Zx y]) := fun {x y K} => by
    simp [buildK, zero_92, fillL, pl_92_0, pl_92_1, Wv, cellsOf, Yn]
  have lit : ∀ {K : Value → Yc → Prop}, Yw prog h 30 1 [(0, .agg #[Zx 1, Zx 6])] K = K (.slice (some ⟨h.length, 0, none⟩) 1 1) (h ++ [.ints [1, 6] 92 false]) := fun {K} => by
    simp only [Yw, el_30, zero_92, esz_92, reps, fillL, mkb, Wv, cellsOf, List.toList_toArray, List.length_cons, List.length_nil, Nat.zero_add, Nat.zero_mul, Yn]
    refine propext ⟨fun h => ?_, fun h => ⟨trivial, by decide, by decide, ?_⟩⟩
    · simpa [Xk] using h.2.2.2
    · simpa [Xk] using h
  have hp : PairSl (h ++ [.ints [1, 6] 92 false]) (.slice (some ⟨h.length, 0, none⟩) 1 1) [(1, 6)] := .inr ⟨h.length, 0, none, 1, [Zx 1, Zx 6], 92, false, rfl, Nat.le_refl _, by simp [view, Blk.view], fun i hi => by
    obtain rfl : i = 0 := by simpa using hi
    exact ⟨rfl, rfl⟩⟩
  have hv : Vo 2 [(1, 6)] = true := by decide
  refine Zy fun N5 hN5 => ?_
  simp (maxSteps := 2000000) only [s21, ↓Za, ↓Zo, ↓Zr, ↓Ze, ↓Zi, ↓Zs, ↓Zf, ↓Zl, ↓Zg, ↓Zc, ↓Zb, ↓vdn, vup, Zh, Zk, Zm, Zn, Zj, List.map_cons, List.map_nil, cond_true, cond_false, aop, Zv, Zq, Zp, ev, sput, Zt, Zz, Yb, unK, Zd, Zw, Nat.reduceBEq, Nat.reduceAdd, Int.reduceBEq, Int.reduceBNe, Int.reduceLT, Zu, Ya, tup, tyf]
  refine hN5 [(0, .bool false)] _ _ ?_ (by simp (maxSteps := 2000000) only [↓Za, ↓Zo, ↓Zr, ↓Ze, ↓Zi, ↓Zs, ↓Zf, ↓Zl, ↓Zg, ↓Zc, ↓Zb, ↓vdn, vup, Zh, Zk, Zm, Zn, Zj, List.map_cons, List.map_nil, cond_true, cond_false, aop, Zv, Zq, Zp, ev, sput, Zt, Zz, Yb, unK, Zd, Zw, Nat.reduceBEq, Nat.reduceAdd, Int.reduceBEq, Int.reduceBNe, Int.reduceLT, Zu, Ya, tup, tyf])
  clear hN5
  try clear N5
  refine Zy fun N6 hN6 => ?_
  simp (maxSteps := 2000000) only [s21, ↓Za, ↓Zo, ↓Zr, ↓Ze, ↓Zi, ↓Zs, ↓Zf, ↓Zl, ↓Zg, ↓Zc, ↓Zb, ↓vdn, vup, Zh, Zk, Zm, Zn, Zj, List.map_cons, List.map_nil, cond_true, cond_false, aop, Zv, Zq, Zp, ev, sput, Zt, Zz, Yb, unK, Zd, Zw, Nat.reduceBEq, Nat.reduceAdd, Int.reduceBEq, Int.reduceBNe, Int.reduceLT, Zu, Ya, tup, tyf, List.map_toArray, bldB, lit, Yr, List.nil_append, List.append_nil, List.toList_toArray, List.cons_append]
  refine (sound_call (n := 2) hp (by decide) fun _ => tame_awake).mono ?_
  rintro r h1 ⟨hE1, x, e, rfl, hs⟩
  rw [SoundIs, if_pos hv, show (2 : Int).toNat = 2 from rfl, corners_awake] at hs
  simp only at hs
  obtain ⟨rfl, bl, rfl, hbl⟩ := hs
  have hE : Ext (fun _ => False) h h1 := (Ext.app _ _ _).trans hE1
  have px := Wk hbl
  have hlist : ([1 / 2, 1 / 2] : List Rat).map ofQ = [(1, 2), (1, 2)] := by decide +kernel
  rw [hlist] at px
  simp (maxSteps := 2000000) only [s21, ↓Za, ↓Zo, ↓Zr, ↓Ze, ↓Zi, ↓Zs, ↓Zf, ↓Zl, ↓Zg, ↓Zc, ↓Zb, ↓vdn, vup, Zh, Zk, Zm, Zn, Zj, List.map_cons, List.map_nil, cond_true, cond_false, aop, Zv, Zq, Zp, ev, sput, Zt, Zz, Yb, unK, Zd, Zw, Nat.reduceBEq, Nat.reduceAdd, Int.reduceBEq, Int.reduceBNe, Int.reduceLT, Zu, Ya, tup, tyf, List.length_cons, List.length_nil]
  refine hN6 [(0, .bool false), (1, .slice (some ⟨bl, 0, none⟩) 2 2), (2, .int .i64 0)] _ _ ?_ (by simp (maxSteps := 2000000) only [↓Za, ↓Zo, ↓Zr, ↓Ze, ↓Zi, ↓Zs, ↓Zf, ↓Zl, ↓Zg, ↓Zc, ↓Zb, ↓vdn, vup, Zh, Zk, Zm, Zn, Zj, List.map_cons, List.map_nil, cond_true, cond_false, aop, Zv, Zq, Zp, ev, sput, Zt, Zz, Yb, unK, Zd, Zw, Nat.reduceBEq, Nat.reduceAdd, Int.reduceBEq, Int.reduceBNe, Int.reduceLT, Zu, Ya, tup, tyf])
  clear hN6
  try clear N6
  have lit2 : ∀ {K : Value → Yc → Prop}, Yw prog h1 47 2 [(0, .agg #[Zx 1, Zx 2]), (1, .agg #[Zx 1, Zx 2])] K = K (.slice (some ⟨h1.length, 0, none⟩) 2 2) (h1 ++ [.ints [1, 2, 1, 2] 26 false]) := fun {K} => by
    simp [Yw, el_47, Xx, Vm, reps, fillL, mkb, Wv, cellsOf, Yn, Xk]
  have p2 : PairSl (h1 ++ [.ints [1, 2, 1, 2] 26 false]) (.slice (some ⟨h1.length, 0, none⟩) 2 2) [(1, 2), (1, 2)] := .inr ⟨h1.length, 0, none, 2, [Zx 1, Zx 2, Zx 1, Zx 2], 26, false, rfl, Nat.le_refl _, by simp [view, Blk.view], fun i hi => by
    have : i = 0 ∨ i = 1 := by simp at hi; omega
    rcases this with rfl | rfl <;> exact ⟨rfl, rfl⟩⟩
  have eq := equalF_call (px.ext (Ext.app _ _ _)) p2 (by decide)
  refine Yd ?_
  simp (maxSteps := 2000000) only [s21, ↓Za, ↓Zo, ↓Zr, ↓Ze, ↓Zi, ↓Zs, ↓Zf, ↓Zl, ↓Zg, ↓Zc, ↓Zb, ↓vdn, vup, Zh, Zk, Zm, Zn, Zj, List.map_cons, List.map_nil, cond_true, cond_false, aop, Zv, Zq, Zp, ev, sput, Zt, Zz, Yb, unK, Zd, Zw, Nat.reduceBEq, Nat.reduceAdd, Int.reduceBEq, Int.reduceBNe, Int.reduceLT, Zu, Ya, tup, tyf, Yr, List.nil_append, List.append_nil, List.toList_toArray, List.cons_append, List.map_toArray, bldF, lit2]
  refine (eq).mono ?_
  rintro _ _ ⟨rfl, rfl⟩
  simp (maxSteps := 2000000) only [s21, ↓Za, ↓Zo, ↓Zr, ↓Ze, ↓Zi, ↓Zs, ↓Zf, ↓Zl, ↓Zg, ↓Zc, ↓Zb, ↓vdn, vup, Zh, Zk, Zm, Zn, Zj, List.map_cons, List.map_nil, cond_true, cond_false, aop, Zv, Zq, Zp, ev, sput, Zt, Zz, Yb, unK, Zd, Zw, Nat.reduceBEq, Nat.reduceAdd, Int.reduceBEq, Int.reduceBNe, Int.reduceLT, Zu, Ya, tup, tyf, decide_true]
  exact hE.trans (Ext.app _ _ _)
end Go.Proofs.Try.Am

namespace Go.Proofs.Try.Am
open Go.Am Bq
set_option maxRecDepth 100000
set_option maxHeartbeats 4000000

theorem race_take {xs ys : List Int} (h8 : raceB (xs.take 8) (ys.take 8) = true) : xs.take 8 = xs ∧ ys.take 8 = ys := by
  have r := race_of h8
  have l1 := r.len
  have l2 := r.eq
  rw [List.length_take] at l1 l2
  rw [List.length_take] at l2
  exact ⟨List.take_of_length_le (by omega), List.take_of_length_le (by omega)⟩
end Go.Proofs.Try.Am

namespace Go.Proofs.Try.Am
open Go.Am Bq
set_option maxRecDepth 100000
set_option maxHeartbeats 4000000

theorem grow_uniq {xs ys : List Int} {L : List Nat} {k k' : Nat} (a : GrowP xs ys L k) (b : GrowP xs ys L k') : k = k' := by
  have ha := a.le
  have hb := b.le
  rcases Nat.lt_trichotomy k k' with h | h | h
  · rcases a.stop with s | s
    · omega
    · exact absurd (b.cond k h) s
  · exact h
  · rcases b.stop with s | s
    · omega
    · exact absurd (a.cond k' h) s
theorem s14_callW [Tabs Try.prog] {args : List Value} {h : Yc} {Q : Value → Yc → Prop} (hsz : args.length ≤ 41) (hk : AWS Try.prog 41 s14 (Zu Try.prog [.tmp 4] Q) (Zp 0 args) h) : ACall Try.prog 14 args h Q :=
  Yx Try.func14 rfl (enters_of Try.func14 (by kernel_rfl) rfl) rfl rfl (by decide) s14_strip s14_ok hsz hk
theorem law_grow [Tabs prog] {h : Yc} {u v : Value} {xs ys : List Int} (hu : IntSl h u xs) (hlx : xs.length < 9223372036854775808) (_hxx : ∀ x ∈ xs, -(2 ^ 63) ≤ x ∧ x < 2 ^ 63) (hv : IntSl h v ys) (hly : ys.length < 9223372036854775808) (_hxy : ∀ x ∈ ys, -(2 ^ 63) ≤ x ∧ x < 2 ^ 63) :
    ACall prog 14 [u, v] h fun r _ => r = .bool true := by
  refine s14_callW (by simp) ?_
  simp only [s14]
  refine Zy fun N1 hN1 => ?_
  simp (maxSteps := 2000000) only [s14, ↓Za, ↓Zo, ↓Zr, ↓Ze, ↓Zi, ↓Zs, ↓Zf, ↓Zl, ↓Zg, ↓Zc, ↓Zb, ↓vdn, vup, Zh, Zk, Zm, Zn, Zj, List.map_cons, List.map_nil, cond_true, cond_false, aop, Zv, Zq, Zp, ev, sput, Zt, Zz, Yb, unK, Zd, Zw, Nat.reduceBEq, Nat.reduceAdd, Int.reduceBEq, Int.reduceBNe, Int.reduceLT, Zu, Ya, tup, tyf]
  refine hN1 [(0, u), (1, v), (4, .bool false)] _ _ ?_ (by simp (maxSteps := 2000000) only [↓Za, ↓Zo, ↓Zr, ↓Ze, ↓Zi, ↓Zs, ↓Zf, ↓Zl, ↓Zg, ↓Zc, ↓Zb, ↓vdn, vup, Zh, Zk, Zm, Zn, Zj, List.map_cons, List.map_nil, cond_true, cond_false, aop, Zv, Zq, Zp, ev, sput, Zt, Zz, Yb, unK, Zd, Zw, Nat.reduceBEq, Nat.reduceAdd, Int.reduceBEq, Int.reduceBNe, Int.reduceLT, Zu, Ya, tup, tyf])
  clear hN1
  try clear N1
  refine Zy fun N2 hN2 => ?_
  simp (maxSteps := 2000000) only [s14, ↓Za, ↓Zo, ↓Zr, ↓Ze, ↓Zi, ↓Zs, ↓Zf, ↓Zl, ↓Zg, ↓Zc, ↓Zb, ↓vdn, vup, Zh, Zk, Zm, Zn, Zj, List.map_cons, List.map_nil, cond_true, cond_false, aop, Zv, Zq, Zp, ev, sput, Zt, Zz, Yb, unK, Zd, Zw, Nat.reduceBEq, Nat.reduceAdd, Int.reduceBEq, Int.reduceBNe, Int.reduceLT, Zu, Ya, tup, tyf, Yr, List.nil_append, List.append_nil, List.toList_toArray, List.cons_append]
  refine (list_call hu).mono ?_
  rintro u1 h1 ⟨hu1, hE1⟩
  refine (list_call (Xv hv hE1)).mono ?_
  rintro u2 h2 ⟨hu2, hE2⟩
  refine (progGrow_call (Xv hu1 hE2) hu2 (by rw [List.length_take]; omega) (by rw [List.length_take]; omega)).mono ?_
  rintro r H ⟨hE4, yes, no⟩
  have hE : Ext (fun _ => False) h H := (hE1.trans hE2).trans hE4
  have huH := Xv hu hE
  have hvH := Xv hv hE
  cases hr : raceB xs ys with
  | true =>
    have rc := race_of hr
    have rl := rc.len
    have re := rc.eq
    have t1 : xs.take 8 = xs := List.take_of_length_le (by omega)
    have t2 : ys.take 8 = ys := List.take_of_length_le (by omega)
    rw [t1, t2] at yes
    obtain ⟨L, k, s, gp, rfl, hsl⟩ := yes hr
    simp (maxSteps := 2000000) only [s14, ↓Za, ↓Zo, ↓Zr, ↓Ze, ↓Zi, ↓Zs, ↓Zf, ↓Zl, ↓Zg, ↓Zc, ↓Zb, ↓vdn, vup, Zh, Zk, Zm, Zn, Zj, List.map_cons, List.map_nil, cond_true, cond_false, aop, Zv, Zq, Zp, ev, sput, Zt, Zz, Yb, unK, Zd, Zw, Nat.reduceBEq, Nat.reduceAdd, Int.reduceBEq, Int.reduceBNe, Int.reduceLT, Zu, Ya, tup, tyf]
    refine hN2 [(0, u), (1, v), (4, .bool false), (5, s), (6, .int .i64 0)] _ _ ?_ (by simp (maxSteps := 2000000) only [↓Za, ↓Zo, ↓Zr, ↓Ze, ↓Zi, ↓Zs, ↓Zf, ↓Zl, ↓Zg, ↓Zc, ↓Zb, ↓vdn, vup, Zh, Zk, Zm, Zn, Zj, List.map_cons, List.map_nil, cond_true, cond_false, aop, Zv, Zq, Zp, ev, sput, Zt, Zz, Yb, unK, Zd, Zw, Nat.reduceBEq, Nat.reduceAdd, Int.reduceBEq, Int.reduceBNe, Int.reduceLT, Zu, Ya, tup, tyf])
    clear hN2
    try clear N2
    refine Ye fun M hM => ?_
    refine Zy fun N3 hN3 => ?_
    simp (maxSteps := 2000000) only [s14, ↓Za, ↓Zo, ↓Zr, ↓Ze, ↓Zi, ↓Zs, ↓Zf, ↓Zl, ↓Zg, ↓Zc, ↓Zb, ↓vdn, vup, Zh, Zk, Zm, Zn, Zj, List.map_cons, List.map_nil, cond_true, cond_false, aop, Zv, Zq, Zp, ev, sput, Zt, Zz, Yb, unK, Zd, Zw, Nat.reduceBEq, Nat.reduceAdd, Int.reduceBEq, Int.reduceBNe, Int.reduceLT, Zu, Ya, tup, tyf, Yr, List.nil_append, List.append_nil, List.toList_toArray, List.cons_append]
    refine (rrace_call huH hvH (by omega) (by omega)).mono ?_
    rintro _ H ⟨rfl, rfl⟩
    simp (maxSteps := 2000000) only [s14, ↓Za, ↓Zo, ↓Zr, ↓Ze, ↓Zi, ↓Zs, ↓Zf, ↓Zl, ↓Zg, ↓Zc, ↓Zb, ↓vdn, vup, Zh, Zk, Zm, Zn, Zj, List.map_cons, List.map_nil, cond_true, cond_false, aop, Zv, Zq, Zp, ev, sput, Zt, Zz, Yb, unK, Zd, Zw, Nat.reduceBEq, Nat.reduceAdd, Int.reduceBEq, Int.reduceBNe, Int.reduceLT, Zu, Ya, tup, tyf, hr, Bool.not_true]
    refine hN3 [(0, u), (1, v), (4, .bool false), (5, s), (6, .int .i64 0), (18, .bool false)] _ _ ?_ (by simp (maxSteps := 2000000) only [↓Za, ↓Zo, ↓Zr, ↓Ze, ↓Zi, ↓Zs, ↓Zf, ↓Zl, ↓Zg, ↓Zc, ↓Zb, ↓vdn, vup, Zh, Zk, Zm, Zn, Zj, List.map_cons, List.map_nil, cond_true, cond_false, aop, Zv, Zq, Zp, ev, sput, Zt, Zz, Yb, unK, Zd, Zw, Nat.reduceBEq, Nat.reduceAdd, Int.reduceBEq, Int.reduceBNe, Int.reduceLT, Zu, Ya, tup, tyf])
    clear hN3
    try clear N3
    refine Xs rfl ?_
    refine Yd ?_
    simp (maxSteps := 2000000) only [s14, ↓Za, ↓Zo, ↓Zr, ↓Ze, ↓Zi, ↓Zs, ↓Zf, ↓Zl, ↓Zg, ↓Zc, ↓Zb, ↓vdn, vup, Zh, Zk, Zm, Zn, Zj, List.map_cons, List.map_nil, cond_true, cond_false, aop, Zv, Zq, Zp, ev, sput, Zt, Zz, Yb, unK, Zd, Zw, Nat.reduceBEq, Nat.reduceAdd, Int.reduceBEq, Int.reduceBNe, Int.reduceLT, Zu, Ya, tup, tyf]
    refine hM [(0, u), (1, v), (4, .bool false), (5, s), (6, .int .i64 0)] _ _ ?_ (by simp (maxSteps := 2000000) only [↓Za, ↓Zo, ↓Zr, ↓Ze, ↓Zi, ↓Zs, ↓Zf, ↓Zl, ↓Zg, ↓Zc, ↓Zb, ↓vdn, vup, Zh, Zk, Zm, Zn, Zj, List.map_cons, List.map_nil, cond_true, cond_false, aop, Zv, Zq, Zp, ev, sput, Zt, Zz, Yb, unK, Zd, Zw, Nat.reduceBEq, Nat.reduceAdd, Int.reduceBEq, Int.reduceBNe, Int.reduceLT, Zu, Ya, tup, tyf])
    clear hM
    try clear M
    refine Yd ?_
    simp (maxSteps := 2000000) only [s14, ↓Za, ↓Zo, ↓Zr, ↓Ze, ↓Zi, ↓Zs, ↓Zf, ↓Zl, ↓Zg, ↓Zc, ↓Zb, ↓vdn, vup, Zh, Zk, Zm, Zn, Zj, List.map_cons, List.map_nil, cond_true, cond_false, aop, Zv, Zq, Zp, ev, sput, Zt, Zz, Yb, unK, Zd, Zw, Nat.reduceBEq, Nat.reduceAdd, Int.reduceBEq, Int.reduceBNe, Int.reduceLT, Zu, Ya, tup, tyf, Yr, List.nil_append, List.append_nil, List.toList_toArray, List.cons_append]
    refine (rgrow_call huH hvH rc gp.perm gp.srt).mono ?_
    rintro r2 H2 ⟨hE5, k', gp', hr2⟩
    obtain rfl := grow_uniq gp gp'
    have hlen : (Vn xs ys L (gK xs ys L k) k).length = xs.length := by simp [Vn]
    refine (equalF_call (hsl.ext hE5) hr2 (by rw [hlen]; omega)).mono ?_
    rintro _ H3 ⟨rfl, rfl⟩
    have hdd : decide (Vn xs ys L (gK xs ys L k) k = Vn xs ys L (gK xs ys L k) k) = true := by simp
    simp (maxSteps := 2000000) only [s14, ↓Za, ↓Zo, ↓Zr, ↓Ze, ↓Zi, ↓Zs, ↓Zf, ↓Zl, ↓Zg, ↓Zc, ↓Zb, ↓vdn, vup, Zh, Zk, Zm, Zn, Zj, List.map_cons, List.map_nil, cond_true, cond_false, aop, Zv, Zq, Zp, ev, sput, Zt, Zz, Yb, unK, Zd, Zw, Nat.reduceBEq, Nat.reduceAdd, Int.reduceBEq, Int.reduceBNe, Int.reduceLT, Zu, Ya, tup, tyf, hdd, Yr, List.nil_append, List.append_nil, List.toList_toArray, List.cons_append]
    exact awake_call.mono fun _ _ h => h.1
  | false =>
    have hc8 : raceB (xs.take 8) (ys.take 8) = false := by
      rw [← Bool.not_eq_true]
      intro c1
      obtain ⟨t1, t2⟩ := race_take c1
      rw [t1, t2, hr] at c1
      cases c1
    obtain rfl := no hc8
    simp (maxSteps := 2000000) only [s14, ↓Za, ↓Zo, ↓Zr, ↓Ze, ↓Zi, ↓Zs, ↓Zf, ↓Zl, ↓Zg, ↓Zc, ↓Zb, ↓vdn, vup, Zh, Zk, Zm, Zn, Zj, List.map_cons, List.map_nil, cond_true, cond_false, aop, Zv, Zq, Zp, ev, sput, Zt, Zz, Yb, unK, Zd, Zw, Nat.reduceBEq, Nat.reduceAdd, Int.reduceBEq, Int.reduceBNe, Int.reduceLT, Zu, Ya, tup, tyf]
    refine hN2 [(0, u), (1, v), (4, .bool false), (5, .slice none 0 0), (6, .int .i64 2)] _ _ ?_ (by simp (maxSteps := 2000000) only [↓Za, ↓Zo, ↓Zr, ↓Ze, ↓Zi, ↓Zs, ↓Zf, ↓Zl, ↓Zg, ↓Zc, ↓Zb, ↓vdn, vup, Zh, Zk, Zm, Zn, Zj, List.map_cons, List.map_nil, cond_true, cond_false, aop, Zv, Zq, Zp, ev, sput, Zt, Zz, Yb, unK, Zd, Zw, Nat.reduceBEq, Nat.reduceAdd, Int.reduceBEq, Int.reduceBNe, Int.reduceLT, Zu, Ya, tup, tyf])
    clear hN2
    try clear N2
    refine Ye fun M hM => ?_
    have e0 : (((0 : Nat) : Int) == 0) = true := rfl
    refine Zy fun N4 hN4 => ?_
    simp (maxSteps := 2000000) only [s14, ↓Za, ↓Zo, ↓Zr, ↓Ze, ↓Zi, ↓Zs, ↓Zf, ↓Zl, ↓Zg, ↓Zc, ↓Zb, ↓vdn, vup, Zh, Zk, Zm, Zn, Zj, List.map_cons, List.map_nil, cond_true, cond_false, aop, Zv, Zq, Zp, ev, sput, Zt, Zz, Yb, unK, Zd, Zw, Nat.reduceBEq, Nat.reduceAdd, Int.reduceBEq, Int.reduceBNe, Int.reduceLT, Zu, Ya, tup, tyf, Yr, List.nil_append, List.append_nil, List.toList_toArray, List.cons_append]
    refine (rrace_call huH hvH (by omega) (by omega)).mono ?_
    rintro _ H ⟨rfl, rfl⟩
    simp (maxSteps := 2000000) only [s14, ↓Za, ↓Zo, ↓Zr, ↓Ze, ↓Zi, ↓Zs, ↓Zf, ↓Zl, ↓Zg, ↓Zc, ↓Zb, ↓vdn, vup, Zh, Zk, Zm, Zn, Zj, List.map_cons, List.map_nil, cond_true, cond_false, aop, Zv, Zq, Zp, ev, sput, Zt, Zz, Yb, unK, Zd, Zw, Nat.reduceBEq, Nat.reduceAdd, Int.reduceBEq, Int.reduceBNe, Int.reduceLT, Zu, Ya, tup, tyf, hr, Bool.not_false]
    refine hN4 [(0, u), (1, v), (4, .bool false), (5, .slice none 0 0), (6, .int .i64 2), (18, .bool true)] _ _ ?_ (by simp (maxSteps := 2000000) only [↓Za, ↓Zo, ↓Zr, ↓Ze, ↓Zi, ↓Zs, ↓Zf, ↓Zl, ↓Zg, ↓Zc, ↓Zb, ↓vdn, vup, Zh, Zk, Zm, Zn, Zj, List.map_cons, List.map_nil, cond_true, cond_false, aop, Zv, Zq, Zp, ev, sput, Zt, Zz, Yb, unK, Zd, Zw, Nat.reduceBEq, Nat.reduceAdd, Int.reduceBEq, Int.reduceBNe, Int.reduceLT, Zu, Ya, tup, tyf])
    clear hN4
    try clear N4
    refine Wc rfl ?_
    refine Yd ?_
    simp (maxSteps := 2000000) only [s14, ↓Za, ↓Zo, ↓Zr, ↓Ze, ↓Zi, ↓Zs, ↓Zf, ↓Zl, ↓Zg, ↓Zc, ↓Zb, ↓vdn, vup, Zh, Zk, Zm, Zn, Zj, List.map_cons, List.map_nil, cond_true, cond_false, aop, Zv, Zq, Zp, ev, sput, Zt, Zz, Yb, unK, Zd, Zw, Nat.reduceBEq, Nat.reduceAdd, Int.reduceBEq, Int.reduceBNe, Int.reduceLT, Zu, Ya, tup, tyf, lenK, e0, Yr, List.nil_append, List.append_nil, List.toList_toArray, List.cons_append]
    exact awake_call.mono fun _ _ h => h.1
end Go.Proofs.Try.Am

/-
  sure: the law SureMore.
-/
import Derived.Test.YtaagkbbphgdcdaaDoorPk10
set_option linter.all false
namespace Go.Proofs.Tryd.Am
open Go.Am Sr Bq
set_option maxRecDepth 100000
set_option maxHeartbeats 4000000

theorem s8_callW [Tabs Tryd.prog] {args : List Value} {h : Yd} {Q : Value → Yd → Prop} (hsz : args.length ≤ 157) (hk : AWS Tryd.prog 157 s8 (Zv Tryd.prog [.tmp 8] Q) (Zp 0 args) h) : ACall Tryd.prog 8 args h Q :=
  Wb Tryd.func8 rfl (enters_of Tryd.func8 (by kernel_rfl) rfl) rfl rfl (by decide) s8_strip s8_ok hsz hk
theorem law_more [BitTab prog 0] {h : Yd} {v : Value} {xs : List Int} (hv : IntSl h v xs) (hl : xs.length < 9223372036854775808) (hx : ∀ x ∈ xs, -9223372036854775808 ≤ x ∧ x < 9223372036854775808) (i0 j0 k : Int) :
    ACall prog 8 [v, Zy i0, Zy j0, Zy k] h fun r _ => r = .bool true := by
  have e00 : ((0 : Int) == 0) = true := rfl
  have n00 : ((0 : Int) != 0) = false := rfl
  have n20 : ((2 : Int) != 0) = true := rfl
  have n22 : ((2 : Int) != 2) = false := rfl
  have n60 : ((6 : Int) != 0) = true := rfl
  have n62 : ((6 : Int) != 2) = true := rfl
  have n66 : ((6 : Int) != 6) = false := rfl
  have l0 : ∀ {K : Value → Prop}, lenK (.slice none 0 0) K = K (.int .i64 0) := fun {K} => rfl
  refine s8_callW (by simp) ?_
  simp only [s8]
  refine Yc fun N1 hN1 => ?_
  simp (maxSteps := 2000000) only [s8, ↓Za, ↓Zk, ↓Zs, ↓Zf, ↓Zn, ↓Zt, ↓Ze, ↓Zj, ↓Zg, ↓Zb, ↓Zc, ↓vdn, vup, Zl, Zh, Zi, Zm, Zo, List.map_cons, List.map_nil, cond_true, cond_false, aop, Zw, Zr, Zp, ev, sput, Zu, Zz, Yb, unK, Zd, Zx, Nat.reduceBEq, Nat.reduceAdd, Int.reduceBEq, Int.reduceBNe, Int.reduceLT, Zv, Ya, tup, tyf]
  refine hN1 [(0, v), (1, Zy i0), (2, Zy j0), (3, Zy k), (8, .bool false)] _ _ ?_ (by simp (maxSteps := 2000000) only [↓Za, ↓Zk, ↓Zs, ↓Zf, ↓Zn, ↓Zt, ↓Ze, ↓Zj, ↓Zg, ↓Zb, ↓Zc, ↓vdn, vup, Zl, Zh, Zi, Zm, Zo, List.map_cons, List.map_nil, cond_true, cond_false, aop, Zw, Zr, Zp, ev, sput, Zu, Zz, Yb, unK, Zd, Zx, Nat.reduceBEq, Nat.reduceAdd, Int.reduceBEq, Int.reduceBNe, Int.reduceLT, Zv, Ya, tup, tyf])
  clear hN1
  try clear N1
  refine Yg fun A hA => ?_
  refine Yc fun N2 hN2 => ?_
  simp (maxSteps := 2000000) only [s8, ↓Za, ↓Zk, ↓Zs, ↓Zf, ↓Zn, ↓Zt, ↓Ze, ↓Zj, ↓Zg, ↓Zb, ↓Zc, ↓vdn, vup, Zl, Zh, Zi, Zm, Zo, List.map_cons, List.map_nil, cond_true, cond_false, aop, Zw, Zr, Zp, ev, sput, Zu, Zz, Yb, unK, Zd, Zx, Nat.reduceBEq, Nat.reduceAdd, Int.reduceBEq, Int.reduceBNe, Int.reduceLT, Zv, Ya, tup, tyf, Yy, List.nil_append, List.append_nil, List.toList_toArray, List.cons_append]
  refine (rgraph_call hv hl hx).mono ?_
  rintro _ h ⟨rfl, rfl⟩
  cases hg : grs xs with
  | false =>
    simp (maxSteps := 2000000) only [s8, ↓Za, ↓Zk, ↓Zs, ↓Zf, ↓Zn, ↓Zt, ↓Ze, ↓Zj, ↓Zg, ↓Zb, ↓Zc, ↓vdn, vup, Zl, Zh, Zi, Zm, Zo, List.map_cons, List.map_nil, cond_true, cond_false, aop, Zw, Zr, Zp, ev, sput, Zu, Zz, Yb, unK, Zd, Zx, Nat.reduceBEq, Nat.reduceAdd, Int.reduceBEq, Int.reduceBNe, Int.reduceLT, Zv, Ya, tup, tyf, Bool.not_false]
    refine hN2 [(0, v), (1, Zy i0), (2, Zy j0), (3, Zy k), (8, .bool false), (24, .bool true)] _ _ ?_ (by simp (maxSteps := 2000000) only [↓Za, ↓Zk, ↓Zs, ↓Zf, ↓Zn, ↓Zt, ↓Ze, ↓Zj, ↓Zg, ↓Zb, ↓Zc, ↓vdn, vup, Zl, Zh, Zi, Zm, Zo, List.map_cons, List.map_nil, cond_true, cond_false, aop, Zw, Zr, Zp, ev, sput, Zu, Zz, Yb, unK, Zd, Zx, Nat.reduceBEq, Nat.reduceAdd, Int.reduceBEq, Int.reduceBNe, Int.reduceLT, Zv, Ya, tup, tyf])
    clear hN2
    try clear N2
    refine Xq rfl ?_
    refine Yf ?_
    simp (maxSteps := 2000000) only [s8, ↓Za, ↓Zk, ↓Zs, ↓Zf, ↓Zn, ↓Zt, ↓Ze, ↓Zj, ↓Zg, ↓Zb, ↓Zc, ↓vdn, vup, Zl, Zh, Zi, Zm, Zo, List.map_cons, List.map_nil, cond_true, cond_false, aop, Zw, Zr, Zp, ev, sput, Zu, Zz, Yb, unK, Zd, Zx, Nat.reduceBEq, Nat.reduceAdd, Int.reduceBEq, Int.reduceBNe, Int.reduceLT, Zv, Ya, tup, tyf, Yy, List.nil_append, List.append_nil, List.toList_toArray, List.cons_append]
    refine awk fun g _ => ?_
    simp (maxSteps := 2000000) only [s8, ↓Za, ↓Zk, ↓Zs, ↓Zf, ↓Zn, ↓Zt, ↓Ze, ↓Zj, ↓Zg, ↓Zb, ↓Zc, ↓vdn, vup, Zl, Zh, Zi, Zm, Zo, List.map_cons, List.map_nil, cond_true, cond_false, aop, Zw, Zr, Zp, ev, sput, Zu, Zz, Yb, unK, Zd, Zx, Nat.reduceBEq, Nat.reduceAdd, Int.reduceBEq, Int.reduceBNe, Int.reduceLT, Zv, Ya, tup, tyf]
  | true =>
    have g := grs_iff.1 hg
    have h1n := g.1
    have h6 := g.2.1
    have hne : xs ≠ [] := fun hc => by rw [hc] at h1n; simp at h1n
    simp (maxSteps := 2000000) only [s8, ↓Za, ↓Zk, ↓Zs, ↓Zf, ↓Zn, ↓Zt, ↓Ze, ↓Zj, ↓Zg, ↓Zb, ↓Zc, ↓vdn, vup, Zl, Zh, Zi, Zm, Zo, List.map_cons, List.map_nil, cond_true, cond_false, aop, Zw, Zr, Zp, ev, sput, Zu, Zz, Yb, unK, Zd, Zx, Nat.reduceBEq, Nat.reduceAdd, Int.reduceBEq, Int.reduceBNe, Int.reduceLT, Zv, Ya, tup, tyf, Bool.not_true]
    refine hN2 [(0, v), (1, Zy i0), (2, Zy j0), (3, Zy k), (8, .bool false), (24, .bool false)] _ _ ?_ (by simp (maxSteps := 2000000) only [↓Za, ↓Zk, ↓Zs, ↓Zf, ↓Zn, ↓Zt, ↓Ze, ↓Zj, ↓Zg, ↓Zb, ↓Zc, ↓vdn, vup, Zl, Zh, Zi, Zm, Zo, List.map_cons, List.map_nil, cond_true, cond_false, aop, Zw, Zr, Zp, ev, sput, Zu, Zz, Yb, unK, Zd, Zx, Nat.reduceBEq, Nat.reduceAdd, Int.reduceBEq, Int.reduceBNe, Int.reduceLT, Zv, Ya, tup, tyf])
    clear hN2
    try clear N2
    refine Yz rfl ?_
    refine Yf ?_
    simp (maxSteps := 2000000) only [s8, ↓Za, ↓Zk, ↓Zs, ↓Zf, ↓Zn, ↓Zt, ↓Ze, ↓Zj, ↓Zg, ↓Zb, ↓Zc, ↓vdn, vup, Zl, Zh, Zi, Zm, Zo, List.map_cons, List.map_nil, cond_true, cond_false, aop, Zw, Zr, Zp, ev, sput, Zu, Zz, Yb, unK, Zd, Zx, Nat.reduceBEq, Nat.reduceAdd, Int.reduceBEq, Int.reduceBNe, Int.reduceLT, Zv, Ya, tup, tyf]
    refine hA [(0, v), (1, Zy i0), (2, Zy j0), (3, Zy k), (8, .bool false)] _ _ ?_ (by simp (maxSteps := 2000000) only [↓Za, ↓Zk, ↓Zs, ↓Zf, ↓Zn, ↓Zt, ↓Ze, ↓Zj, ↓Zg, ↓Zb, ↓Zc, ↓vdn, vup, Zl, Zh, Zi, Zm, Zo, List.map_cons, List.map_nil, cond_true, cond_false, aop, Zw, Zr, Zp, ev, sput, Zu, Zz, Yb, unK, Zd, Zx, Nat.reduceBEq, Nat.reduceAdd, Int.reduceBEq, Int.reduceBNe, Int.reduceLT, Zv, Ya, tup, tyf])
    clear hA
    try clear A
    refine Yc fun N3 hN3 => ?_
    refine Wc [] (by kernel_rfl) (by kernel_rfl) (by kernel_rfl) (by kernel_rfl) ?_
    have hn0 : ¬ (xs.length : Int) = 0 := by omega
    simp (maxSteps := 2000000) only [s8, ↓Za, ↓Zk, ↓Zs, ↓Zf, ↓Zn, ↓Zt, ↓Ze, ↓Zj, ↓Zg, ↓Zb, ↓Zc, ↓vdn, vup, Zl, Zh, Zi, Zm, Zo, List.map_cons, List.map_nil, cond_true, cond_false, aop, Zw, Zr, Zp, ev, sput, Zu, Zz, Yb, unK, Zd, Zx, Nat.reduceBEq, Nat.reduceAdd, Int.reduceBEq, Int.reduceBNe, Int.reduceLT, Zv, Ya, tup, tyf, convK, hv.len, u64_id h6, ne_eq, hn0, not_false_eq_true, modN_eq i0 h1n h6, modN_eq j0 h1n h6]
    have hi := modN_lt i0 h1n
    have hj := modN_lt j0 h1n
    generalize modN i0 xs.length = i at hi ⊢
    generalize modN j0 xs.length = j at hj ⊢
    refine hN3 [(0, v), (1, Zy (i : Nat)), (2, Zy (j : Nat)), (3, Zy k), (8, .bool false)] _ _ ?_ (by simp (maxSteps := 2000000) only [↓Za, ↓Zk, ↓Zs, ↓Zf, ↓Zn, ↓Zt, ↓Ze, ↓Zj, ↓Zg, ↓Zb, ↓Zc, ↓vdn, vup, Zl, Zh, Zi, Zm, Zo, List.map_cons, List.map_nil, cond_true, cond_false, aop, Zw, Zr, Zp, ev, sput, Zu, Zz, Yb, unK, Zd, Zx, Nat.reduceBEq, Nat.reduceAdd, Int.reduceBEq, Int.reduceBNe, Int.reduceLT, Zv, Ya, tup, tyf])
    clear hN3
    try clear N3
    refine Yg fun A hA => ?_
    by_cases hij : i = j
    · have hb : ((i : Int) == (j : Int)) = true := by rw [hij]; exact beq_self_eq_true _
      refine Yc fun N4 hN4 => ?_
      simp (maxSteps := 2000000) only [s8, ↓Za, ↓Zk, ↓Zs, ↓Zf, ↓Zn, ↓Zt, ↓Ze, ↓Zj, ↓Zg, ↓Zb, ↓Zc, ↓vdn, vup, Zl, Zh, Zi, Zm, Zo, List.map_cons, List.map_nil, cond_true, cond_false, aop, Zw, Zr, Zp, ev, sput, Zu, Zz, Yb, unK, Zd, Zx, Nat.reduceBEq, Nat.reduceAdd, Int.reduceBEq, Int.reduceBNe, Int.reduceLT, Zv, Ya, tup, tyf, hb]
      refine hN4 [(0, v), (1, Zy (i : Nat)), (2, Zy (j : Nat)), (3, Zy k), (8, .bool false), (42, .bool true)] _ _ ?_ (by simp (maxSteps := 2000000) only [↓Za, ↓Zk, ↓Zs, ↓Zf, ↓Zn, ↓Zt, ↓Ze, ↓Zj, ↓Zg, ↓Zb, ↓Zc, ↓vdn, vup, Zl, Zh, Zi, Zm, Zo, List.map_cons, List.map_nil, cond_true, cond_false, aop, Zw, Zr, Zp, ev, sput, Zu, Zz, Yb, unK, Zd, Zx, Nat.reduceBEq, Nat.reduceAdd, Int.reduceBEq, Int.reduceBNe, Int.reduceLT, Zv, Ya, tup, tyf])
      clear hN4
      try clear N4
      refine Xq rfl ?_
      refine Yf ?_
      simp (maxSteps := 2000000) only [s8, ↓Za, ↓Zk, ↓Zs, ↓Zf, ↓Zn, ↓Zt, ↓Ze, ↓Zj, ↓Zg, ↓Zb, ↓Zc, ↓vdn, vup, Zl, Zh, Zi, Zm, Zo, List.map_cons, List.map_nil, cond_true, cond_false, aop, Zw, Zr, Zp, ev, sput, Zu, Zz, Yb, unK, Zd, Zx, Nat.reduceBEq, Nat.reduceAdd, Int.reduceBEq, Int.reduceBNe, Int.reduceLT, Zv, Ya, tup, tyf, Yy, List.nil_append, List.append_nil, List.toList_toArray, List.cons_append]
      refine awk fun g _ => ?_
      simp (maxSteps := 2000000) only [s8, ↓Za, ↓Zk, ↓Zs, ↓Zf, ↓Zn, ↓Zt, ↓Ze, ↓Zj, ↓Zg, ↓Zb, ↓Zc, ↓vdn, vup, Zl, Zh, Zi, Zm, Zo, List.map_cons, List.map_nil, cond_true, cond_false, aop, Zw, Zr, Zp, ev, sput, Zu, Zz, Yb, unK, Zd, Zx, Nat.reduceBEq, Nat.reduceAdd, Int.reduceBEq, Int.reduceBNe, Int.reduceLT, Zv, Ya, tup, tyf]
    have hb : ((i : Int) == (j : Int)) = false := by rw [beqN, beq_eq_false_iff_ne]; exact hij
    refine Yc fun N5 hN5 => ?_
    simp (maxSteps := 2000000) only [s8, ↓Za, ↓Zk, ↓Zs, ↓Zf, ↓Zn, ↓Zt, ↓Ze, ↓Zj, ↓Zg, ↓Zb, ↓Zc, ↓vdn, vup, Zl, Zh, Zi, Zm, Zo, List.map_cons, List.map_nil, cond_true, cond_false, aop, Zw, Zr, Zp, ev, sput, Zu, Zz, Yb, unK, Zd, Zx, Nat.reduceBEq, Nat.reduceAdd, Int.reduceBEq, Int.reduceBNe, Int.reduceLT, Zv, Ya, tup, tyf, hb]
    refine hN5 [(0, v), (1, Zy (i : Nat)), (2, Zy (j : Nat)), (3, Zy k), (8, .bool false), (42, .bool false)] _ _ ?_ (by simp (maxSteps := 2000000) only [↓Za, ↓Zk, ↓Zs, ↓Zf, ↓Zn, ↓Zt, ↓Ze, ↓Zj, ↓Zg, ↓Zb, ↓Zc, ↓vdn, vup, Zl, Zh, Zi, Zm, Zo, List.map_cons, List.map_nil, cond_true, cond_false, aop, Zw, Zr, Zp, ev, sput, Zu, Zz, Yb, unK, Zd, Zx, Nat.reduceBEq, Nat.reduceAdd, Int.reduceBEq, Int.reduceBNe, Int.reduceLT, Zv, Ya, tup, tyf])
    clear hN5
    try clear N5
    refine Yz rfl ?_
    refine Yf ?_
    simp (maxSteps := 2000000) only [s8, ↓Za, ↓Zk, ↓Zs, ↓Zf, ↓Zn, ↓Zt, ↓Ze, ↓Zj, ↓Zg, ↓Zb, ↓Zc, ↓vdn, vup, Zl, Zh, Zi, Zm, Zo, List.map_cons, List.map_nil, cond_true, cond_false, aop, Zw, Zr, Zp, ev, sput, Zu, Zz, Yb, unK, Zd, Zx, Nat.reduceBEq, Nat.reduceAdd, Int.reduceBEq, Int.reduceBNe, Int.reduceLT, Zv, Ya, tup, tyf]
    refine hA [(0, v), (1, Zy (i : Nat)), (2, Zy (j : Nat)), (3, Zy k), (8, .bool false)] _ _ ?_ (by simp (maxSteps := 2000000) only [↓Za, ↓Zk, ↓Zs, ↓Zf, ↓Zn, ↓Zt, ↓Ze, ↓Zj, ↓Zg, ↓Zb, ↓Zc, ↓vdn, vup, Zl, Zh, Zi, Zm, Zo, List.map_cons, List.map_nil, cond_true, cond_false, aop, Zw, Zr, Zp, ev, sput, Zu, Zz, Yb, unK, Zd, Zx, Nat.reduceBEq, Nat.reduceAdd, Int.reduceBEq, Int.reduceBNe, Int.reduceLT, Zv, Ya, tup, tyf])
    clear hA
    try clear A
    refine Yc fun N6 hN6 => ?_
    simp (maxSteps := 2000000) only [s8, ↓Za, ↓Zk, ↓Zs, ↓Zf, ↓Zn, ↓Zt, ↓Ze, ↓Zj, ↓Zg, ↓Zb, ↓Zc, ↓vdn, vup, Zl, Zh, Zi, Zm, Zo, List.map_cons, List.map_nil, cond_true, cond_false, aop, Zw, Zr, Zp, ev, sput, Zu, Zz, Yb, unK, Zd, Zx, Nat.reduceBEq, Nat.reduceAdd, Int.reduceBEq, Int.reduceBNe, Int.reduceLT, Zv, Ya, tup, tyf, Yy, List.nil_append, List.append_nil, List.toList_toArray, List.cons_append]
    refine (list_rsi hv hne (by omega)).mono ?_
    rintro w h1 hw1
    refine hN6 [(0, v), (1, Zy (i : Nat)), (2, Zy (j : Nat)), (3, Zy k), (8, .bool false), (9, w)] _ _ ?_ (by simp (maxSteps := 2000000) only [↓Za, ↓Zk, ↓Zs, ↓Zf, ↓Zn, ↓Zt, ↓Ze, ↓Zj, ↓Zg, ↓Zb, ↓Zc, ↓vdn, vup, Zl, Zh, Zi, Zm, Zo, List.map_cons, List.map_nil, cond_true, cond_false, aop, Zw, Zr, Zp, ev, sput, Zu, Zz, Yb, unK, Zd, Zx, Nat.reduceBEq, Nat.reduceAdd, Int.reduceBEq, Int.reduceBNe, Int.reduceLT, Zv, Ya, tup, tyf])
    clear hN6
    try clear N6
    obtain ⟨ho1, hE1, hbl⟩ := hw1
    have hnn : ∀ i : Nat, (0 : Int) ≤ (i : Int) := Int.natCast_nonneg
    have hgi := gnE g hi
    have hgj := gnE g hj
    have p2 : ∀ t, t < xs.length → 2 ^ t < 64 := fun t ht => Nat.lt_of_lt_of_le (Nat.pow_lt_pow_right (by decide) ht) (pow6N h6)
    have hor1 : Wk .or .i64 ((gn xs i : Nat) : Int) ((2 ^ j : Nat) : Int) = ((gn xs i ||| 2 ^ j : Nat) : Int) := bitsV_or (by have := hgi.2; omega) (by have := p2 j hj; omega)
    have hor2 : Wk .or .i64 ((gn xs j : Nat) : Int) ((2 ^ i : Nat) : Int) = ((gn xs j ||| 2 ^ i : Nat) : Int) := bitsV_or (by have := hgj.2; omega) (by have := p2 i hi; omega)
    refine Yc fun N7 hN7 => ?_
    refine Wc [] (by kernel_rfl) (by kernel_rfl) (by kernel_rfl) (by kernel_rfl) ?_
    simp (maxSteps := 2000000) only [s8, ↓Za, ↓Zk, ↓Zs, ↓Zf, ↓Zn, ↓Zt, ↓Ze, ↓Zj, ↓Zg, ↓Zb, ↓Zc, ↓vdn, vup, Zl, Zh, Zi, Zm, Zo, List.map_cons, List.map_nil, cond_true, cond_false, aop, Zw, Zr, Zp, ev, sput, Zu, Zz, Yb, unK, Zd, Zx, Nat.reduceBEq, Nat.reduceAdd, Int.reduceBEq, Int.reduceBNe, Int.reduceLT, Zv, Ya, tup, tyf, ho1.int.idx Xv Xi hi, ho1.int.load Xl hi, hgi.1, hnn, shlI1 (show j ≤ 62 by omega), hor1]
    refine ownSl_store ho1 hi fun h2 ho2 hE2 => ?_
    refine hN7 [(0, v), (1, Zy (i : Nat)), (2, Zy (j : Nat)), (3, Zy k), (8, .bool false), (9, w)] _ _ ?_ (by simp (maxSteps := 2000000) only [↓Za, ↓Zk, ↓Zs, ↓Zf, ↓Zn, ↓Zt, ↓Ze, ↓Zj, ↓Zg, ↓Zb, ↓Zc, ↓vdn, vup, Zl, Zh, Zi, Zm, Zo, List.map_cons, List.map_nil, cond_true, cond_false, aop, Zw, Zr, Zp, ev, sput, Zu, Zz, Yb, unK, Zd, Zx, Nat.reduceBEq, Nat.reduceAdd, Int.reduceBEq, Int.reduceBNe, Int.reduceLT, Zv, Ya, tup, tyf])
    clear hN7
    try clear N7
    have hj2 : j < (xs.set i ((gn xs i ||| 2 ^ j : Nat) : Int)).length := by rw [List.length_set]; exact hj
    have hgj2 : (xs.set i ((gn xs i ||| 2 ^ j : Nat) : Int)).getD j 0 = ((gn xs j : Nat) : Int) := by
      rw [List.getD, List.getElem?_set_ne hij]; exact hgj.1
    refine Yc fun N8 hN8 => ?_
    refine Wc [] (by kernel_rfl) (by kernel_rfl) (by kernel_rfl) (by kernel_rfl) ?_
    simp (maxSteps := 2000000) only [s8, ↓Za, ↓Zk, ↓Zs, ↓Zf, ↓Zn, ↓Zt, ↓Ze, ↓Zj, ↓Zg, ↓Zb, ↓Zc, ↓vdn, vup, Zl, Zh, Zi, Zm, Zo, List.map_cons, List.map_nil, cond_true, cond_false, aop, Zw, Zr, Zp, ev, sput, Zu, Zz, Yb, unK, Zd, Zx, Nat.reduceBEq, Nat.reduceAdd, Int.reduceBEq, Int.reduceBNe, Int.reduceLT, Zv, Ya, tup, tyf, ho2.int.idx Xv Xi hj2, ho2.int.load Xl hj2, hgj2, hnn, shlI1 (show i ≤ 62 by omega), hor2]
    refine ownSl_store ho2 hj2 fun h3 ho3 hE3 => ?_
    refine hN8 [(0, v), (1, Zy (i : Nat)), (2, Zy (j : Nat)), (3, Zy k), (8, .bool false), (9, w)] _ _ ?_ (by simp (maxSteps := 2000000) only [↓Za, ↓Zk, ↓Zs, ↓Zf, ↓Zn, ↓Zt, ↓Ze, ↓Zj, ↓Zg, ↓Zb, ↓Zc, ↓vdn, vup, Zl, Zh, Zi, Zm, Zo, List.map_cons, List.map_nil, cond_true, cond_false, aop, Zw, Zr, Zp, ev, sput, Zu, Zz, Yb, unK, Zd, Zx, Nat.reduceBEq, Nat.reduceAdd, Int.reduceBEq, Int.reduceBNe, Int.reduceLT, Zv, Ya, tup, tyf])
    clear hN8
    try clear N8
    have hE03 : Ext (fun _ => False) h h3 := ext_ge (ext_ge hE1 (fun b hb => hbl b hb) hE2) (fun b hb => hbl b hb) hE3
    have hv3 := Xn hv hE03
    obtain ⟨ys, hys⟩ : ∃ ys, ys = moreL xs i j := ⟨_, rfl⟩
    have ho3' : IntSl h3 w ys := by rw [hys]; exact ho3.int
    have gy : Gs ys := hys ▸ more_gs g hi hj hij
    have hgy : grs ys = true := grs_iff.2 gy
    have hyl : xs.length = ys.length := by rw [hys, moreL_len]
    have hgb : ∀ a b, a < xs.length → b < xs.length → gb xs a b = true → gb ys a b = true := hys ▸ more_gb hi hj hij
    have hyx : ∀ x ∈ ys, -9223372036854775808 ≤ x ∧ x < 9223372036854775808 := fun x hx => by
      obtain ⟨t, ht, rfl⟩ := List.mem_iff_getElem.1 hx
      have := gs_lt gy ht
      rw [List.getD, List.getElem?_eq_getElem ht, Option.getD_some] at this
      omega
    have hl2 : ys.length < 9223372036854775808 := by omega
    clear ho1 ho2 ho3 hE2 hE3 hgj2 hj2 hor1 hor2 hys
    refine Yc fun N9 hN9 => ?_
    simp (maxSteps := 2000000) only [s8, ↓Za, ↓Zk, ↓Zs, ↓Zf, ↓Zn, ↓Zt, ↓Ze, ↓Zj, ↓Zg, ↓Zb, ↓Zc, ↓vdn, vup, Zl, Zh, Zi, Zm, Zo, List.map_cons, List.map_nil, cond_true, cond_false, aop, Zw, Zr, Zp, ev, sput, Zu, Zz, Yb, unK, Zd, Zx, Nat.reduceBEq, Nat.reduceAdd, Int.reduceBEq, Int.reduceBNe, Int.reduceLT, Zv, Ya, tup, tyf, Yy, List.nil_append, List.append_nil, List.toList_toArray, List.cons_append]
    refine (list_call hv3 hl).mono ?_
    rintro l1 _ ⟨hl1, g1, rfl⟩
    refine (code_call (k := k) hl1 (take80_len xs) (take80_rng hx)).mono ?_
    rintro r1 h4 ⟨hE4, hr1⟩
    obtain ⟨w1, e1, rfl, hc1⟩ := codeR_form (codeR_take hr1)
    simp (maxSteps := 2000000) only [s8, ↓Za, ↓Zk, ↓Zs, ↓Zf, ↓Zn, ↓Zt, ↓Ze, ↓Zj, ↓Zg, ↓Zb, ↓Zc, ↓vdn, vup, Zl, Zh, Zi, Zm, Zo, List.map_cons, List.map_nil, cond_true, cond_false, aop, Zw, Zr, Zp, ev, sput, Zu, Zz, Yb, unK, Zd, Zx, Nat.reduceBEq, Nat.reduceAdd, Int.reduceBEq, Int.reduceBNe, Int.reduceLT, Zv, Ya, tup, tyf]
    refine hN9 [(0, v), (1, Zy (i : Nat)), (2, Zy (j : Nat)), (3, Zy k), (8, .bool false), (9, w), (10, w1), (11, .int .i64 e1)] _ _ ?_ (by simp (maxSteps := 2000000) only [↓Za, ↓Zk, ↓Zs, ↓Zf, ↓Zn, ↓Zt, ↓Ze, ↓Zj, ↓Zg, ↓Zb, ↓Zc, ↓vdn, vup, Zl, Zh, Zi, Zm, Zo, List.map_cons, List.map_nil, cond_true, cond_false, aop, Zw, Zr, Zp, ev, sput, Zu, Zz, Yb, unK, Zd, Zx, Nat.reduceBEq, Nat.reduceAdd, Int.reduceBEq, Int.reduceBNe, Int.reduceLT, Zv, Ya, tup, tyf])
    clear hN9
    try clear N9
    have hE34 := (Ext.app (fun _ => False) h3 g1).trans hE4
    have hv4 := Xn hv3 hE34
    have ho4 := Xn ho3' hE34
    refine Yc fun N10 hN10 => ?_
    simp (maxSteps := 2000000) only [s8, ↓Za, ↓Zk, ↓Zs, ↓Zf, ↓Zn, ↓Zt, ↓Ze, ↓Zj, ↓Zg, ↓Zb, ↓Zc, ↓vdn, vup, Zl, Zh, Zi, Zm, Zo, List.map_cons, List.map_nil, cond_true, cond_false, aop, Zw, Zr, Zp, ev, sput, Zu, Zz, Yb, unK, Zd, Zx, Nat.reduceBEq, Nat.reduceAdd, Int.reduceBEq, Int.reduceBNe, Int.reduceLT, Zv, Ya, tup, tyf, Yy, List.nil_append, List.append_nil, List.toList_toArray, List.cons_append]
    refine (list_call ho4 hl2).mono ?_
    rintro l2 _ ⟨hl2', g2, rfl⟩
    refine (code_call (k := k) hl2' (take80_len ys) (take80_rng hyx)).mono ?_
    rintro r2 h5 ⟨hE5, hr2⟩
    obtain ⟨w2, e2, rfl, hc2⟩ := codeR_form (codeR_take hr2)
    simp (maxSteps := 2000000) only [s8, ↓Za, ↓Zk, ↓Zs, ↓Zf, ↓Zn, ↓Zt, ↓Ze, ↓Zj, ↓Zg, ↓Zb, ↓Zc, ↓vdn, vup, Zl, Zh, Zi, Zm, Zo, List.map_cons, List.map_nil, cond_true, cond_false, aop, Zw, Zr, Zp, ev, sput, Zu, Zz, Yb, unK, Zd, Zx, Nat.reduceBEq, Nat.reduceAdd, Int.reduceBEq, Int.reduceBNe, Int.reduceLT, Zv, Ya, tup, tyf]
    refine hN10 [(0, v), (1, Zy (i : Nat)), (2, Zy (j : Nat)), (3, Zy k), (8, .bool false), (9, w), (10, w1), (11, .int .i64 e1), (12, w2), (13, .int .i64 e2)] _ _ ?_ (by simp (maxSteps := 2000000) only [↓Za, ↓Zk, ↓Zs, ↓Zf, ↓Zn, ↓Zt, ↓Ze, ↓Zj, ↓Zg, ↓Zb, ↓Zc, ↓vdn, vup, Zl, Zh, Zi, Zm, Zo, List.map_cons, List.map_nil, cond_true, cond_false, aop, Zw, Zr, Zp, ev, sput, Zu, Zz, Yb, unK, Zd, Zx, Nat.reduceBEq, Nat.reduceAdd, Int.reduceBEq, Int.reduceBNe, Int.reduceLT, Zv, Ya, tup, tyf])
    clear hN10
    try clear N10
    have hE45 := (Ext.app (fun _ => False) h4 g2).trans hE5
    have hv5 := Xn hv4 hE45
    have ho5 := Xn ho4 hE45
    have hokk : Okk ys k ↔ Okk xs k := by rw [Okk, Okk, hg, hgy]
    have hwn : wn ys k.toNat = wn xs k.toNat := by rw [wn, wn, hyl]
    rw [hokk, hwn] at hc2
    refine Yg fun A hA => ?_
    have go : ∀ e, ELe e [(0, v), (1, Zy (i : Nat)), (2, Zy (j : Nat)), (3, Zy k), (8, .bool false), (9, w), (10, w1), (11, .int .i64 e1), (12, w2), (13, .int .i64 e2)] → A e h5 := by
      intro e he
      refine hA [(0, v), (1, Zy (i : Nat)), (2, Zy (j : Nat)), (3, Zy k), (8, .bool false), (9, w), (10, w1), (11, .int .i64 e1), (12, w2), (13, .int .i64 e2)] _ _ ?_ he
      refine Yc fun N11 hN11 => ?_
      simp (maxSteps := 2000000) only [s8, ↓Za, ↓Zk, ↓Zs, ↓Zf, ↓Zn, ↓Zt, ↓Ze, ↓Zj, ↓Zg, ↓Zb, ↓Zc, ↓vdn, vup, Zl, Zh, Zi, Zm, Zo, List.map_cons, List.map_nil, cond_true, cond_false, aop, Zw, Zr, Zp, ev, sput, Zu, Zz, Yb, unK, Zd, Zx, Nat.reduceBEq, Nat.reduceAdd, Int.reduceBEq, Int.reduceBNe, Int.reduceLT, Zv, Ya, tup, tyf, Yy, List.nil_append, List.append_nil, List.toList_toArray, List.cons_append]
      refine (list_call hv5 hl).mono ?_
      rintro l3 _ ⟨hl3, g3, rfl⟩
      refine (weigh_call hl3 (take80_len xs) (take80_rng hx)).mono ?_
      rintro r3 h6 ⟨hE6, hr3⟩
      obtain ⟨p, rfl, hp⟩ := weigh_ok hg hr3
      simp (maxSteps := 2000000) only [s8, ↓Za, ↓Zk, ↓Zs, ↓Zf, ↓Zn, ↓Zt, ↓Ze, ↓Zj, ↓Zg, ↓Zb, ↓Zc, ↓vdn, vup, Zl, Zh, Zi, Zm, Zo, List.map_cons, List.map_nil, cond_true, cond_false, aop, Zw, Zr, Zp, ev, sput, Zu, Zz, Yb, unK, Zd, Zx, Nat.reduceBEq, Nat.reduceAdd, Int.reduceBEq, Int.reduceBNe, Int.reduceLT, Zv, Ya, tup, tyf, Ve, Wd, zero_44, newF]
      have hE56 := ((Ext.app (fun _ => False) h5 g3).trans hE6).trans (Ext.app _ _ [Blk.cells [Zy p.num, Zy p.den] 44 false])
      have c14 := Xp h6 (Blk.cells [Zy p.num, Zy p.den] 44 false)
      generalize h6 ++ [Blk.cells [Zy p.num, Zy p.den] 44 false] = H6 at hE56 c14 ⊢
      generalize h6.length = b14 at c14 ⊢
      refine hN11 [(0, v), (1, Zy (i : Nat)), (2, Zy (j : Nat)), (3, Zy k), (8, .bool false), (9, w), (10, w1), (11, .int .i64 e1), (12, w2), (13, .int .i64 e2), (14, .pointer (some ⟨b14, 0, none⟩)), (15, .int .i64 0)] _ _ ?_ (by simp (maxSteps := 2000000) only [↓Za, ↓Zk, ↓Zs, ↓Zf, ↓Zn, ↓Zt, ↓Ze, ↓Zj, ↓Zg, ↓Zb, ↓Zc, ↓vdn, vup, Zl, Zh, Zi, Zm, Zo, List.map_cons, List.map_nil, cond_true, cond_false, aop, Zw, Zr, Zp, ev, sput, Zu, Zz, Yb, unK, Zd, Zx, Nat.reduceBEq, Nat.reduceAdd, Int.reduceBEq, Int.reduceBNe, Int.reduceLT, Zv, Ya, tup, tyf])
      clear hN11
      try clear N11
      have hv6 := Xn hv5 hE56
      have ho6 := Xn ho5 hE56
      refine Yc fun N12 hN12 => ?_
      simp (maxSteps := 2000000) only [s8, ↓Za, ↓Zk, ↓Zs, ↓Zf, ↓Zn, ↓Zt, ↓Ze, ↓Zj, ↓Zg, ↓Zb, ↓Zc, ↓vdn, vup, Zl, Zh, Zi, Zm, Zo, List.map_cons, List.map_nil, cond_true, cond_false, aop, Zw, Zr, Zp, ev, sput, Zu, Zz, Yb, unK, Zd, Zx, Nat.reduceBEq, Nat.reduceAdd, Int.reduceBEq, Int.reduceBNe, Int.reduceLT, Zv, Ya, tup, tyf, Yy, List.nil_append, List.append_nil, List.toList_toArray, List.cons_append]
      refine (list_call ho6 hl2).mono ?_
      rintro l4 _ ⟨hl4, g4, rfl⟩
      refine (weigh_call hl4 (take80_len ys) (take80_rng hyx)).mono ?_
      rintro r4 h7 ⟨hE7, hr4⟩
      obtain ⟨q, rfl, hq⟩ := weigh_ok hgy hr4
      simp (maxSteps := 2000000) only [s8, ↓Za, ↓Zk, ↓Zs, ↓Zf, ↓Zn, ↓Zt, ↓Ze, ↓Zj, ↓Zg, ↓Zb, ↓Zc, ↓vdn, vup, Zl, Zh, Zi, Zm, Zo, List.map_cons, List.map_nil, cond_true, cond_false, aop, Zw, Zr, Zp, ev, sput, Zu, Zz, Yb, unK, Zd, Zx, Nat.reduceBEq, Nat.reduceAdd, Int.reduceBEq, Int.reduceBNe, Int.reduceLT, Zv, Ya, tup, tyf, Ve, Wd, zero_44, newF]
      have hE67 := ((Ext.app (fun _ => False) H6 g4).trans hE7).trans (Ext.app _ _ [Blk.cells [Zy q.num, Zy q.den] 44 false])
      have c16 := Xp h7 (Blk.cells [Zy q.num, Zy q.den] 44 false)
      generalize h7 ++ [Blk.cells [Zy q.num, Zy q.den] 44 false] = H7 at hE67 c16 ⊢
      generalize h7.length = b16 at c16 ⊢
      refine hN12 [(0, v), (1, Zy (i : Nat)), (2, Zy (j : Nat)), (3, Zy k), (8, .bool false), (9, w), (10, w1), (11, .int .i64 e1), (12, w2), (13, .int .i64 e2), (14, .pointer (some ⟨b14, 0, none⟩)), (15, .int .i64 0), (16, .pointer (some ⟨b16, 0, none⟩)), (17, .int .i64 0)] _ _ ?_ (by simp (maxSteps := 2000000) only [↓Za, ↓Zk, ↓Zs, ↓Zf, ↓Zn, ↓Zt, ↓Ze, ↓Zj, ↓Zg, ↓Zb, ↓Zc, ↓vdn, vup, Zl, Zh, Zi, Zm, Zo, List.map_cons, List.map_nil, cond_true, cond_false, aop, Zw, Zr, Zp, ev, sput, Zu, Zz, Yb, unK, Zd, Zx, Nat.reduceBEq, Nat.reduceAdd, Int.reduceBEq, Int.reduceBNe, Int.reduceLT, Zv, Ya, tup, tyf])
      clear hN12
      try clear N12
      have hv7 := Xn hv6 hE67
      have ho7 := Xn ho6 hE67
      refine Yc fun N13 hN13 => ?_
      simp (maxSteps := 2000000) only [s8, ↓Za, ↓Zk, ↓Zs, ↓Zf, ↓Zn, ↓Zt, ↓Ze, ↓Zj, ↓Zg, ↓Zb, ↓Zc, ↓vdn, vup, Zl, Zh, Zi, Zm, Zo, List.map_cons, List.map_nil, cond_true, cond_false, aop, Zw, Zr, Zp, ev, sput, Zu, Zz, Yb, unK, Zd, Zx, Nat.reduceBEq, Nat.reduceAdd, Int.reduceBEq, Int.reduceBNe, Int.reduceLT, Zv, Ya, tup, tyf, Yy, List.nil_append, List.append_nil, List.toList_toArray, List.cons_append]
      refine (list_call hv7 hl).mono ?_
      rintro l5 _ ⟨hl5, g5, rfl⟩
      rw [grs_same hg] at hl5
      refine (cover_call hl5 hl hx).mono ?_
      rintro r5 h8 ⟨hE8, hr5⟩
      rw [if_pos hg] at hr5
      subst hr5
      simp (maxSteps := 2000000) only [s8, ↓Za, ↓Zk, ↓Zs, ↓Zf, ↓Zn, ↓Zt, ↓Ze, ↓Zj, ↓Zg, ↓Zb, ↓Zc, ↓vdn, vup, Zl, Zh, Zi, Zm, Zo, List.map_cons, List.map_nil, cond_true, cond_false, aop, Zw, Zr, Zp, ev, sput, Zu, Zz, Yb, unK, Zd, Zx, Nat.reduceBEq, Nat.reduceAdd, Int.reduceBEq, Int.reduceBNe, Int.reduceLT, Zv, Ya, tup, tyf]
      refine hN13 [(0, v), (1, Zy (i : Nat)), (2, Zy (j : Nat)), (3, Zy k), (8, .bool false), (9, w), (10, w1), (11, .int .i64 e1), (12, w2), (13, .int .i64 e2), (14, .pointer (some ⟨b14, 0, none⟩)), (15, .int .i64 0), (16, .pointer (some ⟨b16, 0, none⟩)), (17, .int .i64 0), (18, Zy (cov xs : Nat)), (19, .int .i64 0)] _ _ ?_ (by simp (maxSteps := 2000000) only [↓Za, ↓Zk, ↓Zs, ↓Zf, ↓Zn, ↓Zt, ↓Ze, ↓Zj, ↓Zg, ↓Zb, ↓Zc, ↓vdn, vup, Zl, Zh, Zi, Zm, Zo, List.map_cons, List.map_nil, cond_true, cond_false, aop, Zw, Zr, Zp, ev, sput, Zu, Zz, Yb, unK, Zd, Zx, Nat.reduceBEq, Nat.reduceAdd, Int.reduceBEq, Int.reduceBNe, Int.reduceLT, Zv, Ya, tup, tyf])
      clear hN13
      try clear N13
      have hE78 := (Ext.app (fun _ => False) H7 g5).trans hE8
      have ho8 := Xn ho7 hE78
      refine Yc fun N14 hN14 => ?_
      simp (maxSteps := 2000000) only [s8, ↓Za, ↓Zk, ↓Zs, ↓Zf, ↓Zn, ↓Zt, ↓Ze, ↓Zj, ↓Zg, ↓Zb, ↓Zc, ↓vdn, vup, Zl, Zh, Zi, Zm, Zo, List.map_cons, List.map_nil, cond_true, cond_false, aop, Zw, Zr, Zp, ev, sput, Zu, Zz, Yb, unK, Zd, Zx, Nat.reduceBEq, Nat.reduceAdd, Int.reduceBEq, Int.reduceBNe, Int.reduceLT, Zv, Ya, tup, tyf, Yy, List.nil_append, List.append_nil, List.toList_toArray, List.cons_append]
      refine (cover_call ho8 hl2 hyx).mono ?_
      rintro r6 h9 ⟨hE9, hr6⟩
      rw [if_pos hgy] at hr6
      subst hr6
      simp (maxSteps := 2000000) only [s8, ↓Za, ↓Zk, ↓Zs, ↓Zf, ↓Zn, ↓Zt, ↓Ze, ↓Zj, ↓Zg, ↓Zb, ↓Zc, ↓vdn, vup, Zl, Zh, Zi, Zm, Zo, List.map_cons, List.map_nil, cond_true, cond_false, aop, Zw, Zr, Zp, ev, sput, Zu, Zz, Yb, unK, Zd, Zx, Nat.reduceBEq, Nat.reduceAdd, Int.reduceBEq, Int.reduceBNe, Int.reduceLT, Zv, Ya, tup, tyf]
      refine hN14 [(0, v), (1, Zy (i : Nat)), (2, Zy (j : Nat)), (3, Zy k), (8, .bool false), (9, w), (10, w1), (11, .int .i64 e1), (12, w2), (13, .int .i64 e2), (14, .pointer (some ⟨b14, 0, none⟩)), (15, .int .i64 0), (16, .pointer (some ⟨b16, 0, none⟩)), (17, .int .i64 0), (18, Zy (cov xs : Nat)), (19, .int .i64 0), (20, Zy (cov ys : Nat)), (21, .int .i64 0)] _ _ ?_ (by simp (maxSteps := 2000000) only [↓Za, ↓Zk, ↓Zs, ↓Zf, ↓Zn, ↓Zt, ↓Ze, ↓Zj, ↓Zg, ↓Zb, ↓Zc, ↓vdn, vup, Zl, Zh, Zi, Zm, Zo, List.map_cons, List.map_nil, cond_true, cond_false, aop, Zw, Zr, Zp, ev, sput, Zu, Zz, Yb, unK, Zd, Zx, Nat.reduceBEq, Nat.reduceAdd, Int.reduceBEq, Int.reduceBNe, Int.reduceLT, Zv, Ya, tup, tyf])
      clear hN14
      try clear N14
      have hE79 := hE78.trans hE9
      have d16 := (hE79.2 _ (Xg c16) id).trans c16
      have d14 := ((hE67.trans hE79).2 _ (Xg c14) id).trans c14
      have sp := hp.small g
      have sq := hq.small gy
      have hle := more_weigh g gy hyl hgb hp hq
      have hpd := hp.2.2
      have hqd := hq.2.2
      have hpn := hp.2.1
      have hqn := hq.2.1
      have hcv : ((cov ys : Nat) : Int) ≤ ((cov xs : Nat) : Int) := by have := more_cov g gy hyl hgb; omega
      have hls : decide (p.num * q.den < q.num * p.den) = false := decide_eq_false fun hc => absurd ((Rat.lt_iff p q).2 hc) (Rat.not_lt.2 hle)
      have m1 : (p.num * q.den).natAbs ≤ 4320 * 720 := by rw [Int.natAbs_mul]; exact Nat.mul_le_mul hpn (by simpa using hqd)
      have m2 : (q.num * p.den).natAbs ≤ 4320 * 720 := by rw [Int.natAbs_mul]; exact Nat.mul_le_mul hqn (by simpa using hpd)
      have f1 := small_call (h := h9) sp.1 sp.2 hpd
      have f2 := small_call (h := h9) sq.1 sq.2 hqd
      have f3 := rless_call (h := h9) (a := p.num) (b := p.den) (c := q.num) (d := q.den) (by omega) (by omega)
      rw [hls] at f3
      simp only [qV, frV] at f1 f2 f3
      refine Yc fun N15 hN15 => ?_
      simp only [q8_17]
      refine Vc 15 fun N1 hN1 => ?_
      simp (maxSteps := 2000000) only [s8, ↓Za, ↓Zk, ↓Zs, ↓Zf, ↓Zn, ↓Zt, ↓Ze, ↓Zj, ↓Zg, ↓Zb, ↓Zc, ↓vdn, vup, Zl, Zh, Zi, Zm, Zo, List.map_cons, List.map_nil, cond_true, cond_false, aop, Zw, Zr, Zp, ev, sput, Zu, Zz, Yb, unK, Zd, Zx, Nat.reduceBEq, Nat.reduceAdd, Int.reduceBEq, Int.reduceBNe, Int.reduceLT, Zv, Ya, tup, tyf, List.take_succ_cons, List.take_zero, e00]
      refine hN1 _ _ ?_
      clear hN1 N1
      simp only [List.drop_succ_cons, List.drop_zero]
      refine Vc 2 fun N1 hN1 => ?_
      simp (maxSteps := 2000000) only [s8, ↓Za, ↓Zk, ↓Zs, ↓Zf, ↓Zn, ↓Zt, ↓Ze, ↓Zj, ↓Zg, ↓Zb, ↓Zc, ↓vdn, vup, Zl, Zh, Zi, Zm, Zo, List.map_cons, List.map_nil, cond_true, cond_false, aop, Zw, Zr, Zp, ev, sput, Zu, Zz, Yb, unK, Zd, Zx, Nat.reduceBEq, Nat.reduceAdd, Int.reduceBEq, Int.reduceBNe, Int.reduceLT, Zv, Ya, tup, tyf, Yy, List.nil_append, List.append_nil, List.toList_toArray, List.cons_append, List.take_succ_cons, List.take_zero, loadF d14]
      refine (f1).mono ?_
      rintro _ h9 ⟨rfl, rfl⟩
      refine hN1 _ _ ?_
      clear hN1 N1
      simp only [List.drop_succ_cons, List.drop_zero]
      refine Vc 2 fun N1 hN1 => ?_
      simp (maxSteps := 2000000) only [s8, ↓Za, ↓Zk, ↓Zs, ↓Zf, ↓Zn, ↓Zt, ↓Ze, ↓Zj, ↓Zg, ↓Zb, ↓Zc, ↓vdn, vup, Zl, Zh, Zi, Zm, Zo, List.map_cons, List.map_nil, cond_true, cond_false, aop, Zw, Zr, Zp, ev, sput, Zu, Zz, Yb, unK, Zd, Zx, Nat.reduceBEq, Nat.reduceAdd, Int.reduceBEq, Int.reduceBNe, Int.reduceLT, Zv, Ya, tup, tyf, List.take_succ_cons, List.take_zero]
      refine hN1 _ _ ?_
      clear hN1 N1
      simp only [List.drop_succ_cons, List.drop_zero]
      refine Vc 2 fun N1 hN1 => ?_
      simp (maxSteps := 2000000) only [s8, ↓Za, ↓Zk, ↓Zs, ↓Zf, ↓Zn, ↓Zt, ↓Ze, ↓Zj, ↓Zg, ↓Zb, ↓Zc, ↓vdn, vup, Zl, Zh, Zi, Zm, Zo, List.map_cons, List.map_nil, cond_true, cond_false, aop, Zw, Zr, Zp, ev, sput, Zu, Zz, Yb, unK, Zd, Zx, Nat.reduceBEq, Nat.reduceAdd, Int.reduceBEq, Int.reduceBNe, Int.reduceLT, Zv, Ya, tup, tyf, Yy, List.nil_append, List.append_nil, List.toList_toArray, List.cons_append, List.take_succ_cons, List.take_zero, loadF d16]
      refine (f2).mono ?_
      rintro _ h9 ⟨rfl, rfl⟩
      refine hN1 _ _ ?_
      clear hN1 N1
      simp only [List.drop_succ_cons, List.drop_zero]
      refine Vc 2 fun N1 hN1 => ?_
      simp (maxSteps := 2000000) only [s8, ↓Za, ↓Zk, ↓Zs, ↓Zf, ↓Zn, ↓Zt, ↓Ze, ↓Zj, ↓Zg, ↓Zb, ↓Zc, ↓vdn, vup, Zl, Zh, Zi, Zm, Zo, List.map_cons, List.map_nil, cond_true, cond_false, aop, Zw, Zr, Zp, ev, sput, Zu, Zz, Yb, unK, Zd, Zx, Nat.reduceBEq, Nat.reduceAdd, Int.reduceBEq, Int.reduceBNe, Int.reduceLT, Zv, Ya, tup, tyf, List.take_succ_cons, List.take_zero]
      refine hN1 _ _ ?_
      clear hN1 N1
      simp only [List.drop_succ_cons, List.drop_zero]
      refine Vc 3 fun N1 hN1 => ?_
      simp (maxSteps := 2000000) only [s8, ↓Za, ↓Zk, ↓Zs, ↓Zf, ↓Zn, ↓Zt, ↓Ze, ↓Zj, ↓Zg, ↓Zb, ↓Zc, ↓vdn, vup, Zl, Zh, Zi, Zm, Zo, List.map_cons, List.map_nil, cond_true, cond_false, aop, Zw, Zr, Zp, ev, sput, Zu, Zz, Yb, unK, Zd, Zx, Nat.reduceBEq, Nat.reduceAdd, Int.reduceBEq, Int.reduceBNe, Int.reduceLT, Zv, Ya, tup, tyf, Yy, List.nil_append, List.append_nil, List.toList_toArray, List.cons_append, List.take_succ_cons, List.take_zero, loadF d14, loadF d16]
      refine (f3).mono ?_
      rintro _ h9 ⟨rfl, rfl⟩
      refine hN1 _ _ ?_
      clear hN1 N1
      simp only [List.drop_succ_cons, List.drop_zero]
      refine Vc 3 fun N1 hN1 => ?_
      simp (maxSteps := 2000000) only [s8, ↓Za, ↓Zk, ↓Zs, ↓Zf, ↓Zn, ↓Zt, ↓Ze, ↓Zj, ↓Zg, ↓Zb, ↓Zc, ↓vdn, vup, Zl, Zh, Zi, Zm, Zo, List.map_cons, List.map_nil, cond_true, cond_false, aop, Zw, Zr, Zp, ev, sput, Zu, Zz, Yb, unK, Zd, Zx, Nat.reduceBEq, Nat.reduceAdd, Int.reduceBEq, Int.reduceBNe, Int.reduceLT, Zv, Ya, tup, tyf, List.take_succ_cons, List.take_zero, Bool.not_false]
      refine hN1 _ _ ?_
      clear hN1 N1
      simp only [List.drop_succ_cons, List.drop_zero]
      refine Vc 5 fun N1 hN1 => ?_
      simp (maxSteps := 2000000) only [s8, ↓Za, ↓Zk, ↓Zs, ↓Zf, ↓Zn, ↓Zt, ↓Ze, ↓Zj, ↓Zg, ↓Zb, ↓Zc, ↓vdn, vup, Zl, Zh, Zi, Zm, Zo, List.map_cons, List.map_nil, cond_true, cond_false, aop, Zw, Zr, Zp, ev, sput, Zu, Zz, Yb, unK, Zd, Zx, Nat.reduceBEq, Nat.reduceAdd, Int.reduceBEq, Int.reduceBNe, Int.reduceLT, Zv, Ya, tup, tyf, List.take_succ_cons, List.take_zero, hcv]
      refine hN1 _ _ ?_
      clear hN1 N1
      simp only [List.drop_succ_cons, List.drop_zero]
      simp (maxSteps := 2000000) only [s8, ↓Za, ↓Zk, ↓Zs, ↓Zf, ↓Zn, ↓Zt, ↓Ze, ↓Zj, ↓Zg, ↓Zb, ↓Zc, ↓vdn, vup, Zl, Zh, Zi, Zm, Zo, List.map_cons, List.map_nil, cond_true, cond_false, aop, Zw, Zr, Zp, ev, sput, Zu, Zz, Yb, unK, Zd, Zx, Nat.reduceBEq, Nat.reduceAdd, Int.reduceBEq, Int.reduceBNe, Int.reduceLT, Zv, Ya, tup, tyf, Yy, List.nil_append, List.append_nil, List.toList_toArray, List.cons_append]
      refine awk fun g _ => ?_
      refine hN15 [(0, v), (1, Zy (i : Nat)), (2, Zy (j : Nat)), (3, Zy k), (8, .bool true), (9, w), (10, w1), (11, .int .i64 e1), (12, w2), (13, .int .i64 e2), (14, .pointer (some ⟨b14, 0, none⟩)), (15, .int .i64 0), (16, .pointer (some ⟨b16, 0, none⟩)), (17, .int .i64 0), (18, Zy (cov xs : Nat)), (19, .int .i64 0), (20, Zy (cov ys : Nat)), (21, .int .i64 0)] _ _ ?_ (by simp (maxSteps := 2000000) only [↓Za, ↓Zk, ↓Zs, ↓Zf, ↓Zn, ↓Zt, ↓Ze, ↓Zj, ↓Zg, ↓Zb, ↓Zc, ↓vdn, vup, Zl, Zh, Zi, Zm, Zo, List.map_cons, List.map_nil, cond_true, cond_false, aop, Zw, Zr, Zp, ev, sput, Zu, Zz, Yb, unK, Zd, Zx, Nat.reduceBEq, Nat.reduceAdd, Int.reduceBEq, Int.reduceBNe, Int.reduceLT, Zv, Ya, tup, tyf])
      clear hN15
      try clear N15
      refine Yf ?_
      simp (maxSteps := 2000000) only [s8, ↓Za, ↓Zk, ↓Zs, ↓Zf, ↓Zn, ↓Zt, ↓Ze, ↓Zj, ↓Zg, ↓Zb, ↓Zc, ↓vdn, vup, Zl, Zh, Zi, Zm, Zo, List.map_cons, List.map_nil, cond_true, cond_false, aop, Zw, Zr, Zp, ev, sput, Zu, Zz, Yb, unK, Zd, Zx, Nat.reduceBEq, Nat.reduceAdd, Int.reduceBEq, Int.reduceBNe, Int.reduceLT, Zv, Ya, tup, tyf]
    rcases hc1 with ⟨c1, rfl, rfl⟩ | ⟨c1, c1', rfl, rfl⟩ | ⟨c1, c1', co1, rfl⟩
    · obtain ⟨rfl, rfl⟩ : w2 = .slice none 0 0 ∧ e2 = 2 := by
        rcases hc2 with h | h | h
        · exact h.2
        · exact absurd h.1 c1
        · exact absurd h.1 c1
      refine Yc fun N16 hN16 => ?_
      simp (maxSteps := 2000000) only [s8, ↓Za, ↓Zk, ↓Zs, ↓Zf, ↓Zn, ↓Zt, ↓Ze, ↓Zj, ↓Zg, ↓Zb, ↓Zc, ↓vdn, vup, Zl, Zh, Zi, Zm, Zo, List.map_cons, List.map_nil, cond_true, cond_false, aop, Zw, Zr, Zp, ev, sput, Zu, Zz, Yb, unK, Zd, Zx, Nat.reduceBEq, Nat.reduceAdd, Int.reduceBEq, Int.reduceBNe, Int.reduceLT, Zv, Ya, tup, tyf, n22, n20, l0, gt_iff_lt, Int.lt_irrefl]
      refine hN16 [(0, v), (1, Zy (i : Nat)), (2, Zy (j : Nat)), (3, Zy k), (8, .bool false), (9, w), (10, .slice none 0 0), (11, .int .i64 2), (12, .slice none 0 0), (13, .int .i64 2), (97, .bool false)] _ _ ?_ (by simp (maxSteps := 2000000) only [↓Za, ↓Zk, ↓Zs, ↓Zf, ↓Zn, ↓Zt, ↓Ze, ↓Zj, ↓Zg, ↓Zb, ↓Zc, ↓vdn, vup, Zl, Zh, Zi, Zm, Zo, List.map_cons, List.map_nil, cond_true, cond_false, aop, Zw, Zr, Zp, ev, sput, Zu, Zz, Yb, unK, Zd, Zx, Nat.reduceBEq, Nat.reduceAdd, Int.reduceBEq, Int.reduceBNe, Int.reduceLT, Zv, Ya, tup, tyf])
      clear hN16
      try clear N16
      refine Yz rfl ?_
      refine Yf ?_
      simp (maxSteps := 2000000) only [s8, ↓Za, ↓Zk, ↓Zs, ↓Zf, ↓Zn, ↓Zt, ↓Ze, ↓Zj, ↓Zg, ↓Zb, ↓Zc, ↓vdn, vup, Zl, Zh, Zi, Zm, Zo, List.map_cons, List.map_nil, cond_true, cond_false, aop, Zw, Zr, Zp, ev, sput, Zu, Zz, Yb, unK, Zd, Zx, Nat.reduceBEq, Nat.reduceAdd, Int.reduceBEq, Int.reduceBNe, Int.reduceLT, Zv, Ya, tup, tyf]
      exact go _ (by simp (maxSteps := 2000000) only [↓Za, ↓Zk, ↓Zs, ↓Zf, ↓Zn, ↓Zt, ↓Ze, ↓Zj, ↓Zg, ↓Zb, ↓Zc, ↓vdn, vup, Zl, Zh, Zi, Zm, Zo, List.map_cons, List.map_nil, cond_true, cond_false, aop, Zw, Zr, Zp, ev, sput, Zu, Zz, Yb, unK, Zd, Zx, Nat.reduceBEq, Nat.reduceAdd, Int.reduceBEq, Int.reduceBNe, Int.reduceLT, Zv, Ya, tup, tyf])
    · obtain ⟨rfl, rfl⟩ : w2 = .slice none 0 0 ∧ e2 = 6 := by
        rcases hc2 with h | h | h
        · exact absurd c1 h.1
        · exact h.2.2
        · exact absurd h.2.1 c1'
      refine Yc fun N17 hN17 => ?_
      simp (maxSteps := 2000000) only [s8, ↓Za, ↓Zk, ↓Zs, ↓Zf, ↓Zn, ↓Zt, ↓Ze, ↓Zj, ↓Zg, ↓Zb, ↓Zc, ↓vdn, vup, Zl, Zh, Zi, Zm, Zo, List.map_cons, List.map_nil, cond_true, cond_false, aop, Zw, Zr, Zp, ev, sput, Zu, Zz, Yb, unK, Zd, Zx, Nat.reduceBEq, Nat.reduceAdd, Int.reduceBEq, Int.reduceBNe, Int.reduceLT, Zv, Ya, tup, tyf, n66, n60, n62, l0, gt_iff_lt, Int.lt_irrefl]
      refine hN17 [(0, v), (1, Zy (i : Nat)), (2, Zy (j : Nat)), (3, Zy k), (8, .bool false), (9, w), (10, .slice none 0 0), (11, .int .i64 6), (12, .slice none 0 0), (13, .int .i64 6), (97, .bool false)] _ _ ?_ (by simp (maxSteps := 2000000) only [↓Za, ↓Zk, ↓Zs, ↓Zf, ↓Zn, ↓Zt, ↓Ze, ↓Zj, ↓Zg, ↓Zb, ↓Zc, ↓vdn, vup, Zl, Zh, Zi, Zm, Zo, List.map_cons, List.map_nil, cond_true, cond_false, aop, Zw, Zr, Zp, ev, sput, Zu, Zz, Yb, unK, Zd, Zx, Nat.reduceBEq, Nat.reduceAdd, Int.reduceBEq, Int.reduceBNe, Int.reduceLT, Zv, Ya, tup, tyf])
      clear hN17
      try clear N17
      refine Yz rfl ?_
      refine Yf ?_
      simp (maxSteps := 2000000) only [s8, ↓Za, ↓Zk, ↓Zs, ↓Zf, ↓Zn, ↓Zt, ↓Ze, ↓Zj, ↓Zg, ↓Zb, ↓Zc, ↓vdn, vup, Zl, Zh, Zi, Zm, Zo, List.map_cons, List.map_nil, cond_true, cond_false, aop, Zw, Zr, Zp, ev, sput, Zu, Zz, Yb, unK, Zd, Zx, Nat.reduceBEq, Nat.reduceAdd, Int.reduceBEq, Int.reduceBNe, Int.reduceLT, Zv, Ya, tup, tyf]
      exact go _ (by simp (maxSteps := 2000000) only [↓Za, ↓Zk, ↓Zs, ↓Zf, ↓Zn, ↓Zt, ↓Ze, ↓Zj, ↓Zg, ↓Zb, ↓Zc, ↓vdn, vup, Zl, Zh, Zi, Zm, Zo, List.map_cons, List.map_nil, cond_true, cond_false, aop, Zw, Zr, Zp, ev, sput, Zu, Zz, Yb, unK, Zd, Zx, Nat.reduceBEq, Nat.reduceAdd, Int.reduceBEq, Int.reduceBNe, Int.reduceLT, Zv, Ya, tup, tyf])
    · obtain ⟨co2, rfl⟩ : OwnSl 3 h5 w2 ((codeL (Wm ys k.toNat)).map Int.ofNat) ∧ e2 = 0 := by
        rcases hc2 with h | h | h
        · exact absurd c1 h.1
        · exact absurd c1' h.2.1
        · exact h.2.2
      have hcl := more_code g gy hyl hgb c1'
      have hnl : ¬ ((((codeL (Wm xs k.toNat)).map Int.ofNat).length : Nat) : Int) < ((((codeL (Wm ys k.toNat)).map Int.ofNat).length : Nat) : Int) := by
        rw [List.length_map, List.length_map]; omega
      refine Yc fun N18 hN18 => ?_
      simp (maxSteps := 2000000) only [s8, ↓Za, ↓Zk, ↓Zs, ↓Zf, ↓Zn, ↓Zt, ↓Ze, ↓Zj, ↓Zg, ↓Zb, ↓Zc, ↓vdn, vup, Zl, Zh, Zi, Zm, Zo, List.map_cons, List.map_nil, cond_true, cond_false, aop, Zw, Zr, Zp, ev, sput, Zu, Zz, Yb, unK, Zd, Zx, Nat.reduceBEq, Nat.reduceAdd, Int.reduceBEq, Int.reduceBNe, Int.reduceLT, Zv, Ya, tup, tyf, n00, co1.int.len, co2.int.len, gt_iff_lt, hnl]
      refine hN18 [(0, v), (1, Zy (i : Nat)), (2, Zy (j : Nat)), (3, Zy k), (8, .bool false), (9, w), (10, w1), (11, .int .i64 0), (12, w2), (13, .int .i64 0), (97, .bool false)] _ _ ?_ (by simp (maxSteps := 2000000) only [↓Za, ↓Zk, ↓Zs, ↓Zf, ↓Zn, ↓Zt, ↓Ze, ↓Zj, ↓Zg, ↓Zb, ↓Zc, ↓vdn, vup, Zl, Zh, Zi, Zm, Zo, List.map_cons, List.map_nil, cond_true, cond_false, aop, Zw, Zr, Zp, ev, sput, Zu, Zz, Yb, unK, Zd, Zx, Nat.reduceBEq, Nat.reduceAdd, Int.reduceBEq, Int.reduceBNe, Int.reduceLT, Zv, Ya, tup, tyf])
      clear hN18
      try clear N18
      refine Yz rfl ?_
      refine Yf ?_
      simp (maxSteps := 2000000) only [s8, ↓Za, ↓Zk, ↓Zs, ↓Zf, ↓Zn, ↓Zt, ↓Ze, ↓Zj, ↓Zg, ↓Zb, ↓Zc, ↓vdn, vup, Zl, Zh, Zi, Zm, Zo, List.map_cons, List.map_nil, cond_true, cond_false, aop, Zw, Zr, Zp, ev, sput, Zu, Zz, Yb, unK, Zd, Zx, Nat.reduceBEq, Nat.reduceAdd, Int.reduceBEq, Int.reduceBNe, Int.reduceLT, Zv, Ya, tup, tyf]
      exact go _ (by simp (maxSteps := 2000000) only [↓Za, ↓Zk, ↓Zs, ↓Zf, ↓Zn, ↓Zt, ↓Ze, ↓Zj, ↓Zg, ↓Zb, ↓Zc, ↓vdn, vup, Zl, Zh, Zi, Zm, Zo, List.map_cons, List.map_nil, cond_true, cond_false, aop, Zw, Zr, Zp, ev, sput, Zu, Zz, Yb, unK, Zd, Zx, Nat.reduceBEq, Nat.reduceAdd, Int.reduceBEq, Int.reduceBNe, Int.reduceLT, Zv, Ya, tup, tyf])
end Go.Proofs.Tryd.Am

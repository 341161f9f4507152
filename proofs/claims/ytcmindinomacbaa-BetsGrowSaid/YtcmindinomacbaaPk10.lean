/-
  bets: the reference's Grow.
  bets: equations as they lie in memory.
-/
import Derived.Test.YtcmindinomacbaaPk9
import Derived.Test.YtcmindinomacbaaPk7
import Derived.Test.YtcmindinomacbaaPk8
import Derived.Test.YtcmindinomacbaaPk5
set_option linter.all false
namespace Go.Proofs.Try.Am
open Go.Am Bq
set_option maxRecDepth 100000
set_option maxHeartbeats 4000000

/-- What is taken, as the reference names it. -/
def optI : Option Nat → Int
  | none => -1
  | some c => c

theorem s56_callW [Tabs Try.prog] {args : List Value} {h : Yc} {Q : Value → Yc → Prop} (hsz : args.length ≤ 136) (hk : AWS Try.prog 136 s56 (Zu Try.prog [.tmp 4] Q) (Zp 0 args) h) : ACall Try.prog 56 args h Q :=
  Yx Try.func56 rfl (enters_of Try.func56 (by kernel_rfl) rfl) rfl rfl (by decide) s56_strip s56_ok hsz hk
theorem rgrow_call [Tabs prog] {h : Yc} {u v : Value} {xs ys : List Int} {L : List Nat} (hu : IntSl h u xs) (hv : IntSl h v ys) (rc : RaceP xs ys) (hpL : L.Perm (List.range xs.length)) (hsL : L.Pairwise fun a b => gKey xs ys a ≤ gKey xs ys b) :
    ACall prog 56 [u, v] h fun r h' => Ext (fun _ => False) h h' ∧ ∃ k, GrowP xs ys L k ∧ PairSl h' r (Vn xs ys L (gK xs ys L k) k) := by
  have rl := rc.len
  have re := rc.eq
  have hLn : L.length = xs.length := by rw [hpL.length_eq, List.length_range]
  refine s56_callW (by simp) ?_
  simp only [s56]
  refine Zy fun N1 hN1 => ?_
  simp (maxSteps := 2000000) only [s56, ↓Za, ↓Zo, ↓Zr, ↓Ze, ↓Zi, ↓Zs, ↓Zf, ↓Zl, ↓Zg, ↓Zc, ↓Zb, ↓vdn, vup, Zh, Zk, Zm, Zn, Zj, List.map_cons, List.map_nil, cond_true, cond_false, aop, Zv, Zq, Zp, ev, sput, Zt, Zz, Yb, unK, Zd, Zw, Nat.reduceBEq, Nat.reduceAdd, Int.reduceBEq, Int.reduceBNe, Int.reduceLT, Zu, Ya, tup, tyf]
  refine hN1 [(0, u), (1, v), (4, .slice none 0 0)] _ _ ?_ (by simp (maxSteps := 2000000) only [↓Za, ↓Zo, ↓Zr, ↓Ze, ↓Zi, ↓Zs, ↓Zf, ↓Zl, ↓Zg, ↓Zc, ↓Zb, ↓vdn, vup, Zh, Zk, Zm, Zn, Zj, List.map_cons, List.map_nil, cond_true, cond_false, aop, Zv, Zq, Zp, ev, sput, Zt, Zz, Yb, unK, Zd, Zw, Nat.reduceBEq, Nat.reduceAdd, Int.reduceBEq, Int.reduceBNe, Int.reduceLT, Zu, Ya, tup, tyf])
  clear hN1
  try clear N1
  obtain ⟨n, hn⟩ : ∃ n, ys.length = n := ⟨_, rfl⟩
  have hxn : xs.length = n := by omega
  have hlv : ∀ {K : Value → Prop}, lenK v K = K (Zx n) := fun {K} => by rw [← hn]; exact hv.len K
  have hmk : ∀ {K : Value → Yc → Prop}, makeK prog h 47 (Zx n) (Zx n) K = K (.slice (some ⟨h.length, 0, none⟩) n n) (h ++ [.cells ((Ym (List.replicate n (0, 0))).map Zx) 26 false]) := fun {K} => makeP el_47 Xx info_26 rfl (by omega)
  refine Zy fun N2 hN2 => ?_
  simp (maxSteps := 2000000) only [s56, ↓Za, ↓Zo, ↓Zr, ↓Ze, ↓Zi, ↓Zs, ↓Zf, ↓Zl, ↓Zg, ↓Zc, ↓Zb, ↓vdn, vup, Zh, Zk, Zm, Zn, Zj, List.map_cons, List.map_nil, cond_true, cond_false, aop, Zv, Zq, Zp, ev, sput, Zt, Zz, Yb, unK, Zd, Zw, Nat.reduceBEq, Nat.reduceAdd, Int.reduceBEq, Int.reduceBNe, Int.reduceLT, Zu, Ya, tup, tyf, hlv, hmk]
  refine hN2 [(0, u), (1, v), (4, .slice none 0 0), (5, .slice (some ⟨h.length, 0, none⟩) n n)] _ _ ?_ (by simp (maxSteps := 2000000) only [↓Za, ↓Zo, ↓Zr, ↓Ze, ↓Zi, ↓Zs, ↓Zf, ↓Zl, ↓Zg, ↓Zc, ↓Zb, ↓vdn, vup, Zh, Zk, Zm, Zn, Zj, List.map_cons, List.map_nil, cond_true, cond_false, aop, Zv, Zq, Zp, ev, sput, Zt, Zz, Yb, unK, Zd, Zw, Nat.reduceBEq, Nat.reduceAdd, Int.reduceBEq, Int.reduceBNe, Int.reduceLT, Zu, Ya, tup, tyf])
  clear hN2
  try clear N2
  refine Ye fun Z hZ => ?_
  refine Zy fun N3 hN3 => ?_
  simp (maxSteps := 2000000) only [s56, ↓Za, ↓Zo, ↓Zr, ↓Ze, ↓Zi, ↓Zs, ↓Zf, ↓Zl, ↓Zg, ↓Zc, ↓Zb, ↓vdn, vup, Zh, Zk, Zm, Zn, Zj, List.map_cons, List.map_nil, cond_true, cond_false, aop, Zv, Zq, Zp, ev, sput, Zt, Zz, Yb, unK, Zd, Zw, Nat.reduceBEq, Nat.reduceAdd, Int.reduceBEq, Int.reduceBNe, Int.reduceLT, Zu, Ya, tup, tyf, lenK]
  refine hN3 [(0, u), (1, v), (4, .slice none 0 0), (5, .slice (some ⟨h.length, 0, none⟩) n n), (17, .slice (some ⟨h.length, 0, none⟩) n n), (18, Zx n), (19, .int .i64 0)] _ _ ?_ (by simp (maxSteps := 2000000) only [↓Za, ↓Zo, ↓Zr, ↓Ze, ↓Zi, ↓Zs, ↓Zf, ↓Zl, ↓Zg, ↓Zc, ↓Zb, ↓vdn, vup, Zh, Zk, Zm, Zn, Zj, List.map_cons, List.map_nil, cond_true, cond_false, aop, Zv, Zq, Zp, ev, sput, Zt, Zz, Yb, unK, Zd, Zw, Nat.reduceBEq, Nat.reduceAdd, Int.reduceBEq, Int.reduceBNe, Int.reduceLT, Zu, Ya, tup, tyf])
  clear hN3
  try clear N3
  refine Yf ?_
  refine Yh fun Q hQ => ?_
  refine Yv (γ := Nat) (fun k => k ≤ n)
    (fun k => ([(0, u), (1, v), (4, .slice none 0 0), (5, .slice (some ⟨h.length, 0, none⟩) n n), (17, .slice (some ⟨h.length, 0, none⟩) n n), (18, Zx n), (19, Zx (k : Nat))], h ++ [.cells ((Ym (List.replicate k ((0 : Int), (1 : Int)) ++ List.replicate (n - k) (0, 0))).map Zx) 26 false])) (fun k => n - k) 0 (Nat.zero_le _) (by simp (maxSteps := 2000000) only [↓Za, ↓Zo, ↓Zr, ↓Ze, ↓Zi, ↓Zs, ↓Zf, ↓Zl, ↓Zg, ↓Zc, ↓Zb, ↓vdn, vup, Zh, Zk, Zm, Zn, Zj, List.map_cons, List.map_nil, cond_true, cond_false, aop, Zv, Zq, Zp, ev, sput, Zt, Zz, Yb, unK, Zd, Zw, Nat.reduceBEq, Nat.reduceAdd, Int.reduceBEq, Int.reduceBNe, Int.reduceLT, Zu, Ya, tup, tyf, Int.natCast_zero]) (by simp) ?_
  rintro k hk
  refine Yh fun Q2 hQ2 => ?_
  simp only [l56_0]
  by_cases hin : (k : Int) < n
  · have hk' : k < n := by omega
    obtain ⟨M, hM⟩ : ∃ M, M = List.replicate k ((0 : Int), (1 : Int)) ++ List.replicate (n - k) (0, 0) := ⟨_, rfl⟩
    have hMl : M.length = n := by rw [hM]; simp; omega
    have hset := set_replicate hk'
    rw [← hM] at hset ⊢
    have ps := Wk (e := 26) (ro := false) (Xb h (.cells ((Ym M).map Zx) 26 false))
    rw [hMl] at ps
    refine Zy fun N4 hN4 => ?_
    simp (maxSteps := 2000000) only [s56, ↓Za, ↓Zo, ↓Zr, ↓Ze, ↓Zi, ↓Zs, ↓Zf, ↓Zl, ↓Zg, ↓Zc, ↓Zb, ↓vdn, vup, Zh, Zk, Zm, Zn, Zj, List.map_cons, List.map_nil, cond_true, cond_false, aop, Zv, Zq, Zp, ev, sput, Zt, Zz, Yb, unK, Zd, Zw, Nat.reduceBEq, Nat.reduceAdd, Int.reduceBEq, Int.reduceBNe, Int.reduceLT, Zu, Ya, tup, tyf, hin]
    refine hN4 [(0, u), (1, v), (4, .slice none 0 0), (5, .slice (some ⟨h.length, 0, none⟩) n n), (17, .slice (some ⟨h.length, 0, none⟩) n n), (18, Zx n), (19, Zx (k : Nat)), (20, .bool true)] _ _ ?_ (by simp (maxSteps := 2000000) only [↓Za, ↓Zo, ↓Zr, ↓Ze, ↓Zi, ↓Zs, ↓Zf, ↓Zl, ↓Zg, ↓Zc, ↓Zb, ↓vdn, vup, Zh, Zk, Zm, Zn, Zj, List.map_cons, List.map_nil, cond_true, cond_false, aop, Zv, Zq, Zp, ev, sput, Zt, Zz, Yb, unK, Zd, Zw, Nat.reduceBEq, Nat.reduceAdd, Int.reduceBEq, Int.reduceBNe, Int.reduceLT, Zu, Ya, tup, tyf])
    clear hN4
    try clear N4
    refine Zy fun N5 hN5 => ?_
    simp (maxSteps := 2000000) only [s56, ↓Za, ↓Zo, ↓Zr, ↓Ze, ↓Zi, ↓Zs, ↓Zf, ↓Zl, ↓Zg, ↓Zc, ↓Zb, ↓vdn, vup, Zh, Zk, Zm, Zn, Zj, List.map_cons, List.map_nil, cond_true, cond_false, aop, Zv, Zq, Zp, ev, sput, Zt, Zz, Yb, unK, Zd, Zw, Nat.reduceBEq, Nat.reduceAdd, Int.reduceBEq, Int.reduceBNe, Int.reduceLT, Zu, Ya, tup, tyf]
    refine hN5 [(0, u), (1, v), (4, .slice none 0 0), (5, .slice (some ⟨h.length, 0, none⟩) n n), (17, .slice (some ⟨h.length, 0, none⟩) n n), (18, Zx n), (19, Zx (k : Nat))] _ _ ?_ (by simp (maxSteps := 2000000) only [↓Za, ↓Zo, ↓Zr, ↓Ze, ↓Zi, ↓Zs, ↓Zf, ↓Zl, ↓Zg, ↓Zc, ↓Zb, ↓vdn, vup, Zh, Zk, Zm, Zn, Zj, List.map_cons, List.map_nil, cond_true, cond_false, aop, Zv, Zq, Zp, ev, sput, Zt, Zz, Yb, unK, Zd, Zw, Nat.reduceBEq, Nat.reduceAdd, Int.reduceBEq, Int.reduceBNe, Int.reduceLT, Zu, Ya, tup, tyf])
    clear hN5
    try clear N5
    refine Ye fun B hB => ?_
    refine Yf ?_
    refine Zy fun N6 hN6 => ?_
    simp (maxSteps := 2000000) only [s56, ↓Za, ↓Zo, ↓Zr, ↓Ze, ↓Zi, ↓Zs, ↓Zf, ↓Zl, ↓Zg, ↓Zc, ↓Zb, ↓vdn, vup, Zh, Zk, Zm, Zn, Zj, List.map_cons, List.map_nil, cond_true, cond_false, aop, Zv, Zq, Zp, ev, sput, Zt, Zz, Yb, unK, Zd, Zw, Nat.reduceBEq, Nat.reduceAdd, Int.reduceBEq, Int.reduceBNe, Int.reduceLT, Zu, Ya, tup, tyf]
    refine hN6 [(0, u), (1, v), (4, .slice none 0 0), (5, .slice (some ⟨h.length, 0, none⟩) n n), (6, Zx (k : Nat)), (17, .slice (some ⟨h.length, 0, none⟩) n n), (18, Zx n), (19, Zx (k : Nat))] _ _ ?_ (by simp (maxSteps := 2000000) only [↓Za, ↓Zo, ↓Zr, ↓Ze, ↓Zi, ↓Zs, ↓Zf, ↓Zl, ↓Zg, ↓Zc, ↓Zb, ↓vdn, vup, Zh, Zk, Zm, Zn, Zj, List.map_cons, List.map_nil, cond_true, cond_false, aop, Zv, Zq, Zp, ev, sput, Zt, Zz, Yb, unK, Zd, Zw, Nat.reduceBEq, Nat.reduceAdd, Int.reduceBEq, Int.reduceBNe, Int.reduceLT, Zu, Ya, tup, tyf])
    clear hN6
    try clear N6
    refine Yd ?_
    have hnb : (h ++ [Blk.cells ((Ym M).map Zx) 26 false])[h.length]? = some (.cells ((Ym M).map Zx) 26 false) := Xb _ _
    have hst : ∀ {K : Yc → Prop}, Xj prog (h ++ [Blk.cells ((Ym M).map Zx) 26 false]) 26 (.pointer (some ⟨h.length, k * 2, none⟩)) (.agg #[Zx 0, Zx 1]) K = K (h ++ [Blk.cells ((Ym (M.set k (0, 1))).map Zx) 26 false]) := fun {K} => by
      rw [storePC hnb shp_26 (by omega), Wp]
    have q0 : qV ((0 : Int) : Rat) = .agg #[Zx 0, Zx 1] := rfl
    simp (maxSteps := 2000000) only [s56, ↓Za, ↓Zo, ↓Zr, ↓Ze, ↓Zi, ↓Zs, ↓Zf, ↓Zl, ↓Zg, ↓Zc, ↓Zb, ↓vdn, vup, Zh, Zk, Zm, Zn, Zj, List.map_cons, List.map_nil, cond_true, cond_false, aop, Zv, Zq, Zp, ev, sput, Zt, Zz, Yb, unK, Zd, Zw, Nat.reduceBEq, Nat.reduceAdd, Int.reduceBEq, Int.reduceBNe, Int.reduceLT, Zu, Ya, tup, tyf, Yr, List.nil_append, List.append_nil, List.toList_toArray, List.cons_append]
    refine ((show Xa prog 66 [.int .i64 0] (h ++ [.cells ((Ym M).map Zx) 26 false]) (qV ((0 : Int) : Rat)) from rwhole_call)).mono ?_
    rintro _ H3 ⟨rfl, hH3⟩
    subst hH3
    simp (maxSteps := 2000000) only [s56, ↓Za, ↓Zo, ↓Zr, ↓Ze, ↓Zi, ↓Zs, ↓Zf, ↓Zl, ↓Zg, ↓Zc, ↓Zb, ↓vdn, vup, Zh, Zk, Zm, Zn, Zj, List.map_cons, List.map_nil, cond_true, cond_false, aop, Zv, Zq, Zp, ev, sput, Zt, Zz, Yb, unK, Zd, Zw, Nat.reduceBEq, Nat.reduceAdd, Int.reduceBEq, Int.reduceBNe, Int.reduceLT, Zu, Ya, tup, tyf, ps.idx el_47 Vm (show k < M.length by omega), elemP_pair, q0, hst, hset]
    refine hB [(0, u), (1, v), (4, .slice none 0 0), (5, .slice (some ⟨h.length, 0, none⟩) n n), (17, .slice (some ⟨h.length, 0, none⟩) n n), (18, Zx n), (19, Zx (k : Nat))] _ _ ?_ (by simp (maxSteps := 2000000) only [↓Za, ↓Zo, ↓Zr, ↓Ze, ↓Zi, ↓Zs, ↓Zf, ↓Zl, ↓Zg, ↓Zc, ↓Zb, ↓vdn, vup, Zh, Zk, Zm, Zn, Zj, List.map_cons, List.map_nil, cond_true, cond_false, aop, Zv, Zq, Zp, ev, sput, Zt, Zz, Yb, unK, Zd, Zw, Nat.reduceBEq, Nat.reduceAdd, Int.reduceBEq, Int.reduceBNe, Int.reduceLT, Zu, Ya, tup, tyf])
    clear hB
    try clear B
    refine Yd ?_
    simp (maxSteps := 2000000) only [s56, ↓Za, ↓Zo, ↓Zr, ↓Ze, ↓Zi, ↓Zs, ↓Zf, ↓Zl, ↓Zg, ↓Zc, ↓Zb, ↓vdn, vup, Zh, Zk, Zm, Zn, Zj, List.map_cons, List.map_nil, cond_true, cond_false, aop, Zv, Zq, Zp, ev, sput, Zt, Zz, Yb, unK, Zd, Zw, Nat.reduceBEq, Nat.reduceAdd, Int.reduceBEq, Int.reduceBNe, Int.reduceLT, Zu, Ya, tup, tyf, add1 (show k < 9223372036854775807 by omega)]
    exact hQ2 _ _ _ ⟨k + 1, hk', by omega, by simp (maxSteps := 2000000) only [↓Za, ↓Zo, ↓Zr, ↓Ze, ↓Zi, ↓Zs, ↓Zf, ↓Zl, ↓Zg, ↓Zc, ↓Zb, ↓vdn, vup, Zh, Zk, Zm, Zn, Zj, List.map_cons, List.map_nil, cond_true, cond_false, aop, Zv, Zq, Zp, ev, sput, Zt, Zz, Yb, unK, Zd, Zw, Nat.reduceBEq, Nat.reduceAdd, Int.reduceBEq, Int.reduceBNe, Int.reduceLT, Zu, Ya, tup, tyf], rfl⟩
  · obtain rfl : n = k := by omega
    refine Zy fun N7 hN7 => ?_
    simp (maxSteps := 2000000) only [s56, ↓Za, ↓Zo, ↓Zr, ↓Ze, ↓Zi, ↓Zs, ↓Zf, ↓Zl, ↓Zg, ↓Zc, ↓Zb, ↓vdn, vup, Zh, Zk, Zm, Zn, Zj, List.map_cons, List.map_nil, cond_true, cond_false, aop, Zv, Zq, Zp, ev, sput, Zt, Zz, Yb, unK, Zd, Zw, Nat.reduceBEq, Nat.reduceAdd, Int.reduceBEq, Int.reduceBNe, Int.reduceLT, Zu, Ya, tup, tyf, hin]
    refine hN7 [(0, u), (1, v), (4, .slice none 0 0), (5, .slice (some ⟨h.length, 0, none⟩) n n), (17, .slice (some ⟨h.length, 0, none⟩) n n), (18, Zx n), (19, Zx (n : Nat)), (20, .bool false)] _ _ ?_ (by simp (maxSteps := 2000000) only [↓Za, ↓Zo, ↓Zr, ↓Ze, ↓Zi, ↓Zs, ↓Zf, ↓Zl, ↓Zg, ↓Zc, ↓Zb, ↓vdn, vup, Zh, Zk, Zm, Zn, Zj, List.map_cons, List.map_nil, cond_true, cond_false, aop, Zv, Zq, Zp, ev, sput, Zt, Zz, Yb, unK, Zd, Zw, Nat.reduceBEq, Nat.reduceAdd, Int.reduceBEq, Int.reduceBNe, Int.reduceLT, Zu, Ya, tup, tyf])
    clear hN7
    try clear N7
    refine Zy fun N8 hN8 => ?_
    simp (maxSteps := 2000000) only [s56, ↓Za, ↓Zo, ↓Zr, ↓Ze, ↓Zi, ↓Zs, ↓Zf, ↓Zl, ↓Zg, ↓Zc, ↓Zb, ↓vdn, vup, Zh, Zk, Zm, Zn, Zj, List.map_cons, List.map_nil, cond_true, cond_false, aop, Zv, Zq, Zp, ev, sput, Zt, Zz, Yb, unK, Zd, Zw, Nat.reduceBEq, Nat.reduceAdd, Int.reduceBEq, Int.reduceBNe, Int.reduceLT, Zu, Ya, tup, tyf]
    refine hQ2 _ _ _ (hQ _ _ _ ?_)
    simp (maxSteps := 2000000) only [s56, ↓Za, ↓Zo, ↓Zr, ↓Ze, ↓Zi, ↓Zs, ↓Zf, ↓Zl, ↓Zg, ↓Zc, ↓Zb, ↓vdn, vup, Zh, Zk, Zm, Zn, Zj, List.map_cons, List.map_nil, cond_true, cond_false, aop, Zv, Zq, Zp, ev, sput, Zt, Zz, Yb, unK, Zd, Zw, Nat.reduceBEq, Nat.reduceAdd, Int.reduceBEq, Int.reduceBNe, Int.reduceLT, Zu, Ya, tup, tyf, if_true, Nat.sub_self, List.replicate_zero, List.append_nil]
    refine hZ [(0, u), (1, v), (4, .slice none 0 0), (5, .slice (some ⟨h.length, 0, none⟩) n n), (20, .bool false)] _ _ ?_ (by simp (maxSteps := 2000000) only [↓Za, ↓Zo, ↓Zr, ↓Ze, ↓Zi, ↓Zs, ↓Zf, ↓Zl, ↓Zg, ↓Zc, ↓Zb, ↓vdn, vup, Zh, Zk, Zm, Zn, Zj, List.map_cons, List.map_nil, cond_true, cond_false, aop, Zv, Zq, Zp, ev, sput, Zt, Zz, Yb, unK, Zd, Zw, Nat.reduceBEq, Nat.reduceAdd, Int.reduceBEq, Int.reduceBNe, Int.reduceLT, Zu, Ya, tup, tyf])
    clear hZ
    try clear Z
    obtain ⟨G, hG⟩ : ∃ G, G = h ++ [Blk.cells ((Ym (List.replicate n ((0 : Int), (1 : Int)))).map Zx) 26 false] := ⟨_, rfl⟩
    have hEG : Ext (fun _ => False) h G := by rw [hG]; exact Ext.app _ _ _
    have bs : G[h.length]? = some (.cells ((Ym (List.replicate n ((0 : Int), (1 : Int)))).map Zx) 26 false) := by rw [hG]; exact Xb _ _
    rw [← hG]
    have wc : ∀ h', Xa prog 66 [Zx 1] h' (qV ((1 : Int) : Rat)) := fun _ => rwhole_call
    have q1' : qV ((1 : Int) : Rat) = .agg #[Zx 1, Zx 1] := rfl
    have st7 : ∀ {K : Yc → Prop}, Xj prog (G ++ [z0] ++ [z0] ++ [z0]) 26 (.pointer (some ⟨G.length, 0, none⟩)) (.agg #[Zx 1, Zx 1]) K = K (G ++ [fC 1 1] ++ [z0] ++ [z0]) := fun {K} => by
      rw [Wb (b3_0 ..) rfl, List.set_append_left _ _ (by simp), List.set_append_left _ _ (by simp), Wp]
    have st8 : ∀ {K : Yc → Prop}, Xj prog (G ++ [fC 1 1] ++ [z0] ++ [z0]) 26 (.pointer (some ⟨G.length + 1, 0, none⟩)) (.agg #[Zx 1, Zx 1]) K = K (G ++ [fC 1 1] ++ [fC 1 1] ++ [z0]) := fun {K} => by
      have := Wp (G ++ [fC 1 1]) z0 (fC 1 1)
      simp only [List.length_append, List.length_singleton] at this
      rw [Wb (b3_1 ..) rfl, List.set_append_left _ _ (by simp), this]
    have st9 : ∀ {K : Yc → Prop}, Xj prog (G ++ [fC 1 1] ++ [fC 1 1] ++ [z0]) 26 (.pointer (some ⟨G.length + 1 + 1, 0, none⟩)) (.agg #[Zx 1, Zx 1]) K = K (G ++ [fC 1 1] ++ [fC 1 1] ++ [fC 1 1]) := fun {K} => by
      have := Wp (G ++ [fC 1 1] ++ [fC 1 1]) z0 (fC 1 1)
      simp only [List.length_append, List.length_singleton] at this
      rw [Wb (b3_2 ..) rfl, this]
    refine Zy fun N9 hN9 => ?_
    simp (maxSteps := 2000000) only [s56, ↓Za, ↓Zo, ↓Zr, ↓Ze, ↓Zi, ↓Zs, ↓Zf, ↓Zl, ↓Zg, ↓Zc, ↓Zb, ↓vdn, vup, Zh, Zk, Zm, Zn, Zj, List.map_cons, List.map_nil, cond_true, cond_false, aop, Zv, Zq, Zp, ev, sput, Zt, Zz, Yb, unK, Zd, Zw, Nat.reduceBEq, Nat.reduceAdd, Int.reduceBEq, Int.reduceBNe, Int.reduceLT, Zu, Ya, tup, tyf, Yr, List.nil_append, List.append_nil, List.toList_toArray, List.cons_append]
    refine (wc G).mono ?_
    rintro _ G ⟨rfl, rfl⟩
    refine (wc G).mono ?_
    rintro _ G ⟨rfl, rfl⟩
    refine (wc G).mono ?_
    rintro _ G ⟨rfl, rfl⟩
    simp (maxSteps := 2000000) only [s56, ↓Za, ↓Zo, ↓Zr, ↓Ze, ↓Zi, ↓Zs, ↓Zf, ↓Zl, ↓Zg, ↓Zc, ↓Zb, ↓vdn, vup, Zh, Zk, Zm, Zn, Zj, List.map_cons, List.map_nil, cond_true, cond_false, aop, Zv, Zq, Zp, ev, sput, Zt, Zz, Yb, unK, Zd, Zw, Nat.reduceBEq, Nat.reduceAdd, Int.reduceBEq, Int.reduceBNe, Int.reduceLT, Zu, Ya, tup, tyf, q1', Xw, Xe, Xx, List.length_append, List.length_singleton, st7, st8, st9]
    obtain ⟨G2, hG2⟩ : ∃ G2, G2 = G ++ [fC 1 1] ++ [fC 1 1] ++ [fC 1 1] := ⟨_, rfl⟩
    obtain ⟨p7, hp7⟩ : ∃ p, G.length = p := ⟨_, rfl⟩
    have l2 : G2.length = p7 + 3 := by rw [hG2, ← hp7]; simp
    have e7 : G2[p7]? = some (fC 1 1) := by rw [hG2, ← hp7]; exact b3_0 ..
    have e8 : G2[p7 + 1]? = some (fC 1 1) := by rw [hG2, ← hp7]; exact b3_1 ..
    have e9 : G2[p7 + 2]? = some (fC 1 1) := by rw [hG2, ← hp7]; exact b3_2 ..
    have hEG2 : Ext (fun _ => False) G G2 := by rw [hG2]; exact e3 ..
    rw [← hG2, hp7]
    refine hN9 [(0, u), (1, v), (4, .slice none 0 0), (5, .slice (some ⟨h.length, 0, none⟩) n n), (7, .pointer (some ⟨p7, 0, none⟩)), (8, .pointer (some ⟨p7 + 1, 0, none⟩)), (9, .pointer (some ⟨p7 + 2, 0, none⟩)), (20, .bool false)] _ _ ?_ (by simp (maxSteps := 2000000) only [↓Za, ↓Zo, ↓Zr, ↓Ze, ↓Zi, ↓Zs, ↓Zf, ↓Zl, ↓Zg, ↓Zc, ↓Zb, ↓vdn, vup, Zh, Zk, Zm, Zn, Zj, List.map_cons, List.map_nil, cond_true, cond_false, aop, Zv, Zq, Zp, ev, sput, Zt, Zz, Yb, unK, Zd, Zw, Nat.reduceBEq, Nat.reduceAdd, Int.reduceBEq, Int.reduceBNe, Int.reduceLT, Zu, Ya, tup, tyf])
    clear hN9
    try clear N9
    clear hG2 st7 st8 st9
    refine Zy fun N10 hN10 => ?_
    simp (maxSteps := 2000000) only [s56, ↓Za, ↓Zo, ↓Zr, ↓Ze, ↓Zi, ↓Zs, ↓Zf, ↓Zl, ↓Zg, ↓Zc, ↓Zb, ↓vdn, vup, Zh, Zk, Zm, Zn, Zj, List.map_cons, List.map_nil, cond_true, cond_false, aop, Zv, Zq, Zp, ev, sput, Zt, Zz, Yb, unK, Zd, Zw, Nat.reduceBEq, Nat.reduceAdd, Int.reduceBEq, Int.reduceBNe, Int.reduceLT, Zu, Ya, tup, tyf]
    refine hN10 [(0, u), (1, v), (4, .slice none 0 0), (5, .slice (some ⟨h.length, 0, none⟩) n n), (7, .pointer (some ⟨p7, 0, none⟩)), (8, .pointer (some ⟨p7 + 1, 0, none⟩)), (9, .pointer (some ⟨p7 + 2, 0, none⟩)), (10, .int .i64 0), (20, .bool false)] _ _ ?_ (by simp (maxSteps := 2000000) only [↓Za, ↓Zo, ↓Zr, ↓Ze, ↓Zi, ↓Zs, ↓Zf, ↓Zl, ↓Zg, ↓Zc, ↓Zb, ↓vdn, vup, Zh, Zk, Zm, Zn, Zj, List.map_cons, List.map_nil, cond_true, cond_false, aop, Zv, Zq, Zp, ev, sput, Zt, Zz, Yb, unK, Zd, Zw, Nat.reduceBEq, Nat.reduceAdd, Int.reduceBEq, Int.reduceBNe, Int.reduceLT, Zu, Ya, tup, tyf])
    clear hN10
    try clear N10
    have n1 : (1 : Rat).num = 1 := rfl
    have n2 : ((1 : Rat).den : Int) = 1 := rfl
    have gP0 : gP xs L 0 = 1 := by rw [gP, sumTo]; decide +kernel
    have gQ0 : gQ ys L 0 = 1 := by rw [gQ, sumTo]; decide +kernel
    have gK0 : gK xs ys L 0 = 1 := by rw [gK, gP0, gQ0]; decide +kernel
    have ltL : ∀ j, j < xs.length → L.getD j 0 < xs.length := fun j hj => g_lt rc hpL hj
    have huG := Xv hu hEG
    have hvG := Xv hv hEG
    obtain ⟨val, hval⟩ : ∃ val : Nat → Int, val = fun x => xs.getD x 0 * ys.getD x 0 := ⟨_, rfl⟩
    have tk0 : ((tkS L 0 : Nat) : Int) = 0 := rfl
    refine Ye fun Z hZ => ?_
    have fin : ∀ k (hp : Yc), GrowP xs ys L k → Ext (fun _ => False) G hp → hp[p7]? = some (fC (gK xs ys L k).num (gK xs ys L k).den) → ∀ e, ELe e [(0, u), (1, v), (4, .slice none 0 0), (5, .slice (some ⟨h.length, 0, none⟩) n n), (7, .pointer (some ⟨p7, 0, none⟩)), (8, .pointer (some ⟨p7 + 1, 0, none⟩)), (9, .pointer (some ⟨p7 + 2, 0, none⟩)), (10, Zx (tkS L k : Nat)), (20, .bool false)] → Z e hp := by
      intro k hp gp hEp f7 e he
      refine hZ _ _ _ ?_ he
      have hk := gp.le
      obtain ⟨y, y0, y1, rQ, rK⟩ := gK_rp rc hpL hk gp.cond
      have sb := gSum_le rc hpL k hk
      have nK : (27720 * (12 - gSum xs L k)).natAbs ≤ 332640 := by omega
      obtain ⟨K, hK⟩ : ∃ K, gK xs ys L k = K := ⟨_, rfl⟩
      rw [hK] at rK f7
      obtain ⟨X, hX⟩ : ∃ X, 27720 * (12 - gSum xs L k) = X := ⟨_, rfl⟩
      rw [hX] at rK nK
      have hts : tkS L k < 9223372036854775808 := by
        have : tkS L k < 2 ^ 12 := Nat.lt_pow_two_of_testBit _ fun i hi => by
          rw [← Bool.not_eq_true, tkS_bit]
          rintro ⟨j, h1, h2⟩
          have := ltL j (by omega); omega
        omega
      have hbp := (hEp.2 _ (Yp bs) id).trans bs
      have hup := Xv huG hEp
      have hvp := Xv hvG hEp
      have hgl : (Vn xs ys L K k).length = n := by rw [← hxn]; simp [Vn]
      obtain ⟨M, hM⟩ : ∃ M : Nat → List (Int × Int), M = fun i => (Vn xs ys L K k).take i ++ List.replicate (n - i) ((0 : Int), (1 : Int)) := ⟨_, rfl⟩
      have hMl : ∀ i, i ≤ n → (M i).length = n := fun i hi => by simp [hM, hgl]; omega
      have hM0 : M 0 = List.replicate n ((0 : Int), (1 : Int)) := by simp [hM]
      have hMn : M n = Vn xs ys L K k := by
        simp only [hM, Nat.sub_self, List.replicate_zero, List.append_nil]; exact List.take_of_length_le (by omega)
      have hMs : ∀ i, i < n → (M i).set i (ofQ (growQ xs ys L K k i)) = M (i + 1) := fun i hi => by
        have e1 : (Vn xs ys L K k)[i]'(by omega) = ofQ (growQ xs ys L K k i) := by simp [Vn]
        have e2 : n - i = n - (i + 1) + 1 := by omega
        simp only [hM]
        rw [List.set_append_right _ _ (by rw [List.length_take]; omega), List.length_take, Nat.min_eq_left (by omega), Nat.sub_self, e2, List.replicate_succ, List.set_cons_zero, List.take_succ_eq_append_getElem (by omega), e1, List.append_assoc]; rfl
      have hMz : ∀ i, i < n → growQ xs ys L K k i = 0 → M (i + 1) = M i := fun i hi h0 => by
        rw [← hMs i hi, h0]
        have e2 : n - i = n - (i + 1) + 1 := by omega
        simp only [hM]
        rw [List.set_append_right _ _ (by rw [List.length_take]; omega), List.length_take, Nat.min_eq_left (by omega), Nat.sub_self, e2, List.replicate_succ, List.set_cons_zero]; rfl
      obtain ⟨F, hF⟩ : ∃ F : Nat → Yc, F = fun j => hp.set h.length (.cells ((Ym (M j)).map Zx) 26 false) := ⟨_, rfl⟩
      have hF00 : F 0 = hp := by
        have := List.getElem?_eq_some_iff.1 hbp
        obtain ⟨hl, he⟩ := this
        simp only [hF, hM0]
        rw [← he, List.set_getElem_self]
      have hF0 : ∀ j, (F j)[h.length]? = some (.cells ((Ym (M j)).map Zx) 26 false) := fun j => by rw [hF]; exact Xq (Yp hbp) _
      have hFs : ∀ j, (F j).set h.length (.cells ((Ym (M (j + 1))).map Zx) 26 false) = F (j + 1) := fun j => by
        simp only [hF, List.set_set]
      have hhp : Ext (fun _ => False) h hp := hEG.trans hEp
      have hFE : ∀ j, Ext (fun _ => False) h (F j) := fun j => by rw [hF]; exact hhp.set_ge (Nat.le_refl _) _
      have hph : h.length < p7 := by have := Yp bs; omega
      have f7F : ∀ j, (F j)[p7]? = some (fC K.num K.den) := fun j => by
        simp only [hF]; rw [List.getElem?_set_ne (by omega)]; exact f7
      refine Ye fun Y hY => ?_
      refine Zy fun N11 hN11 => ?_
      simp (maxSteps := 2000000) only [s56, ↓Za, ↓Zo, ↓Zr, ↓Ze, ↓Zi, ↓Zs, ↓Zf, ↓Zl, ↓Zg, ↓Zc, ↓Zb, ↓vdn, vup, Zh, Zk, Zm, Zn, Zj, List.map_cons, List.map_nil, cond_true, cond_false, aop, Zv, Zq, Zp, ev, sput, Zt, Zz, Yb, unK, Zd, Zw, Nat.reduceBEq, Nat.reduceAdd, Int.reduceBEq, Int.reduceBNe, Int.reduceLT, Zu, Ya, tup, tyf, hlv]
      refine hN11 [(0, u), (1, v), (4, .slice none 0 0), (5, .slice (some ⟨h.length, 0, none⟩) n n), (7, .pointer (some ⟨p7, 0, none⟩)), (8, .pointer (some ⟨p7 + 1, 0, none⟩)), (9, .pointer (some ⟨p7 + 2, 0, none⟩)), (10, Zx (tkS L k : Nat)), (20, .bool false), (106, v), (107, Zx n), (108, .int .i64 0)] _ _ ?_ (by simp (maxSteps := 2000000) only [↓Za, ↓Zo, ↓Zr, ↓Ze, ↓Zi, ↓Zs, ↓Zf, ↓Zl, ↓Zg, ↓Zc, ↓Zb, ↓vdn, vup, Zh, Zk, Zm, Zn, Zj, List.map_cons, List.map_nil, cond_true, cond_false, aop, Zv, Zq, Zp, ev, sput, Zt, Zz, Yb, unK, Zd, Zw, Nat.reduceBEq, Nat.reduceAdd, Int.reduceBEq, Int.reduceBNe, Int.reduceLT, Zu, Ya, tup, tyf])
      clear hN11
      try clear N11
      refine Yf ?_
      refine Yh fun Q hQ => ?_
      refine Yv (γ := Nat) (fun j => j ≤ n) (fun j => ([(0, u), (1, v), (4, .slice none 0 0), (5, .slice (some ⟨h.length, 0, none⟩) n n), (7, .pointer (some ⟨p7, 0, none⟩)), (8, .pointer (some ⟨p7 + 1, 0, none⟩)), (9, .pointer (some ⟨p7 + 2, 0, none⟩)), (10, Zx (tkS L k : Nat)), (20, .bool false), (106, v), (107, Zx n), (108, Zx (j : Nat))], F j)) (fun j => n - j) 0 (Nat.zero_le _) (by simp (maxSteps := 2000000) only [↓Za, ↓Zo, ↓Zr, ↓Ze, ↓Zi, ↓Zs, ↓Zf, ↓Zl, ↓Zg, ↓Zc, ↓Zb, ↓vdn, vup, Zh, Zk, Zm, Zn, Zj, List.map_cons, List.map_nil, cond_true, cond_false, aop, Zv, Zq, Zp, ev, sput, Zt, Zz, Yb, unK, Zd, Zw, Nat.reduceBEq, Nat.reduceAdd, Int.reduceBEq, Int.reduceBNe, Int.reduceLT, Zu, Ya, tup, tyf, Int.natCast_zero]) hF00.symm ?_
      rintro j hj
      refine Yh fun Q2 hQ2 => ?_
      simp only [l56_3]
      by_cases hin : (j : Int) < n
      · have hj' : j < n := by omega
        have hjx : j < xs.length := by omega
        have hjy : j < ys.length := by omega
        have hbit := testV (y := j) hts
        have e01 : ((0 : Int) == 1) = false := rfl
        have e11 : ((1 : Int) == 1) = true := rfl
        refine Zy fun N12 hN12 => ?_
        simp (maxSteps := 2000000) only [s56, ↓Za, ↓Zo, ↓Zr, ↓Ze, ↓Zi, ↓Zs, ↓Zf, ↓Zl, ↓Zg, ↓Zc, ↓Zb, ↓vdn, vup, Zh, Zk, Zm, Zn, Zj, List.map_cons, List.map_nil, cond_true, cond_false, aop, Zv, Zq, Zp, ev, sput, Zt, Zz, Yb, unK, Zd, Zw, Nat.reduceBEq, Nat.reduceAdd, Int.reduceBEq, Int.reduceBNe, Int.reduceLT, Zu, Ya, tup, tyf, hin]
        refine hN12 [(0, u), (1, v), (4, .slice none 0 0), (5, .slice (some ⟨h.length, 0, none⟩) n n), (7, .pointer (some ⟨p7, 0, none⟩)), (8, .pointer (some ⟨p7 + 1, 0, none⟩)), (9, .pointer (some ⟨p7 + 2, 0, none⟩)), (10, Zx (tkS L k : Nat)), (20, .bool false), (106, v), (107, Zx n), (108, Zx (j : Nat)), (109, .bool true)] _ _ ?_ (by simp (maxSteps := 2000000) only [↓Za, ↓Zo, ↓Zr, ↓Ze, ↓Zi, ↓Zs, ↓Zf, ↓Zl, ↓Zg, ↓Zc, ↓Zb, ↓vdn, vup, Zh, Zk, Zm, Zn, Zj, List.map_cons, List.map_nil, cond_true, cond_false, aop, Zv, Zq, Zp, ev, sput, Zt, Zz, Yb, unK, Zd, Zw, Nat.reduceBEq, Nat.reduceAdd, Int.reduceBEq, Int.reduceBNe, Int.reduceLT, Zu, Ya, tup, tyf])
        clear hN12
        try clear N12
        refine Zy fun N13 hN13 => ?_
        simp (maxSteps := 2000000) only [s56, ↓Za, ↓Zo, ↓Zr, ↓Ze, ↓Zi, ↓Zs, ↓Zf, ↓Zl, ↓Zg, ↓Zc, ↓Zb, ↓vdn, vup, Zh, Zk, Zm, Zn, Zj, List.map_cons, List.map_nil, cond_true, cond_false, aop, Zv, Zq, Zp, ev, sput, Zt, Zz, Yb, unK, Zd, Zw, Nat.reduceBEq, Nat.reduceAdd, Int.reduceBEq, Int.reduceBNe, Int.reduceLT, Zu, Ya, tup, tyf]
        refine hN13 [(0, u), (1, v), (4, .slice none 0 0), (5, .slice (some ⟨h.length, 0, none⟩) n n), (7, .pointer (some ⟨p7, 0, none⟩)), (8, .pointer (some ⟨p7 + 1, 0, none⟩)), (9, .pointer (some ⟨p7 + 2, 0, none⟩)), (10, Zx (tkS L k : Nat)), (20, .bool false), (106, v), (107, Zx n), (108, Zx (j : Nat))] _ _ ?_ (by simp (maxSteps := 2000000) only [↓Za, ↓Zo, ↓Zr, ↓Ze, ↓Zi, ↓Zs, ↓Zf, ↓Zl, ↓Zg, ↓Zc, ↓Zb, ↓vdn, vup, Zh, Zk, Zm, Zn, Zj, List.map_cons, List.map_nil, cond_true, cond_false, aop, Zv, Zq, Zp, ev, sput, Zt, Zz, Yb, unK, Zd, Zw, Nat.reduceBEq, Nat.reduceAdd, Int.reduceBEq, Int.reduceBNe, Int.reduceLT, Zu, Ya, tup, tyf])
        clear hN13
        try clear N13
        refine Ye fun B hB => ?_
        refine Yf ?_
        refine Zy fun N14 hN14 => ?_
        simp (maxSteps := 2000000) only [s56, ↓Za, ↓Zo, ↓Zr, ↓Ze, ↓Zi, ↓Zs, ↓Zf, ↓Zl, ↓Zg, ↓Zc, ↓Zb, ↓vdn, vup, Zh, Zk, Zm, Zn, Zj, List.map_cons, List.map_nil, cond_true, cond_false, aop, Zv, Zq, Zp, ev, sput, Zt, Zz, Yb, unK, Zd, Zw, Nat.reduceBEq, Nat.reduceAdd, Int.reduceBEq, Int.reduceBNe, Int.reduceLT, Zu, Ya, tup, tyf]
        refine hN14 [(0, u), (1, v), (4, .slice none 0 0), (5, .slice (some ⟨h.length, 0, none⟩) n n), (7, .pointer (some ⟨p7, 0, none⟩)), (8, .pointer (some ⟨p7 + 1, 0, none⟩)), (9, .pointer (some ⟨p7 + 2, 0, none⟩)), (10, Zx (tkS L k : Nat)), (13, Zx (j : Nat)), (20, .bool false), (106, v), (107, Zx n), (108, Zx (j : Nat))] _ _ ?_ (by simp (maxSteps := 2000000) only [↓Za, ↓Zo, ↓Zr, ↓Ze, ↓Zi, ↓Zs, ↓Zf, ↓Zl, ↓Zg, ↓Zc, ↓Zb, ↓vdn, vup, Zh, Zk, Zm, Zn, Zj, List.map_cons, List.map_nil, cond_true, cond_false, aop, Zv, Zq, Zp, ev, sput, Zt, Zz, Yb, unK, Zd, Zw, Nat.reduceBEq, Nat.reduceAdd, Int.reduceBEq, Int.reduceBNe, Int.reduceLT, Zu, Ya, tup, tyf])
        clear hN14
        try clear N14
        refine Zy fun N15 hN15 => ?_
        cases hbt : (tkS L k).testBit j with
        | false =>
          rw [hbt, if_neg (by simp)] at hbit
          simp (maxSteps := 2000000) only [s56, ↓Za, ↓Zo, ↓Zr, ↓Ze, ↓Zi, ↓Zs, ↓Zf, ↓Zl, ↓Zg, ↓Zc, ↓Zb, ↓vdn, vup, Zh, Zk, Zm, Zn, Zj, List.map_cons, List.map_nil, cond_true, cond_false, aop, Zv, Zq, Zp, ev, sput, Zt, Zz, Yb, unK, Zd, Zw, Nat.reduceBEq, Nat.reduceAdd, Int.reduceBEq, Int.reduceBNe, Int.reduceLT, Zu, Ya, tup, tyf, hbit, Int.natCast_nonneg, e01]
          refine hN15 [(0, u), (1, v), (4, .slice none 0 0), (5, .slice (some ⟨h.length, 0, none⟩) n n), (7, .pointer (some ⟨p7, 0, none⟩)), (8, .pointer (some ⟨p7 + 1, 0, none⟩)), (9, .pointer (some ⟨p7 + 2, 0, none⟩)), (10, Zx (tkS L k : Nat)), (13, Zx (j : Nat)), (20, .bool false), (106, v), (107, Zx n), (108, Zx (j : Nat)), (115, .bool false)] _ _ ?_ (by simp (maxSteps := 2000000) only [↓Za, ↓Zo, ↓Zr, ↓Ze, ↓Zi, ↓Zs, ↓Zf, ↓Zl, ↓Zg, ↓Zc, ↓Zb, ↓vdn, vup, Zh, Zk, Zm, Zn, Zj, List.map_cons, List.map_nil, cond_true, cond_false, aop, Zv, Zq, Zp, ev, sput, Zt, Zz, Yb, unK, Zd, Zw, Nat.reduceBEq, Nat.reduceAdd, Int.reduceBEq, Int.reduceBNe, Int.reduceLT, Zu, Ya, tup, tyf])
          clear hN15
          try clear N15
          refine Xs rfl ?_
          refine Yd ?_
          simp (maxSteps := 2000000) only [s56, ↓Za, ↓Zo, ↓Zr, ↓Ze, ↓Zi, ↓Zs, ↓Zf, ↓Zl, ↓Zg, ↓Zc, ↓Zb, ↓vdn, vup, Zh, Zk, Zm, Zn, Zj, List.map_cons, List.map_nil, cond_true, cond_false, aop, Zv, Zq, Zp, ev, sput, Zt, Zz, Yb, unK, Zd, Zw, Nat.reduceBEq, Nat.reduceAdd, Int.reduceBEq, Int.reduceBNe, Int.reduceLT, Zu, Ya, tup, tyf]
          refine hB [(0, u), (1, v), (4, .slice none 0 0), (5, .slice (some ⟨h.length, 0, none⟩) n n), (7, .pointer (some ⟨p7, 0, none⟩)), (8, .pointer (some ⟨p7 + 1, 0, none⟩)), (9, .pointer (some ⟨p7 + 2, 0, none⟩)), (10, Zx (tkS L k : Nat)), (20, .bool false), (106, v), (107, Zx n), (108, Zx (j : Nat))] _ _ ?_ (by simp (maxSteps := 2000000) only [↓Za, ↓Zo, ↓Zr, ↓Ze, ↓Zi, ↓Zs, ↓Zf, ↓Zl, ↓Zg, ↓Zc, ↓Zb, ↓vdn, vup, Zh, Zk, Zm, Zn, Zj, List.map_cons, List.map_nil, cond_true, cond_false, aop, Zv, Zq, Zp, ev, sput, Zt, Zz, Yb, unK, Zd, Zw, Nat.reduceBEq, Nat.reduceAdd, Int.reduceBEq, Int.reduceBNe, Int.reduceLT, Zu, Ya, tup, tyf])
          clear hB
          try clear B
          refine Yd ?_
          simp (maxSteps := 2000000) only [s56, ↓Za, ↓Zo, ↓Zr, ↓Ze, ↓Zi, ↓Zs, ↓Zf, ↓Zl, ↓Zg, ↓Zc, ↓Zb, ↓vdn, vup, Zh, Zk, Zm, Zn, Zj, List.map_cons, List.map_nil, cond_true, cond_false, aop, Zv, Zq, Zp, ev, sput, Zt, Zz, Yb, unK, Zd, Zw, Nat.reduceBEq, Nat.reduceAdd, Int.reduceBEq, Int.reduceBNe, Int.reduceLT, Zu, Ya, tup, tyf, add1 (show j < 9223372036854775807 by omega)]
          have hz : growQ xs ys L K k j = 0 := by rw [growQ, hbt, if_neg (by simp)]
          exact hQ2 _ _ _ ⟨j + 1, hj', by omega, by simp (maxSteps := 2000000) only [↓Za, ↓Zo, ↓Zr, ↓Ze, ↓Zi, ↓Zs, ↓Zf, ↓Zl, ↓Zg, ↓Zc, ↓Zb, ↓vdn, vup, Zh, Zk, Zm, Zn, Zj, List.map_cons, List.map_nil, cond_true, cond_false, aop, Zv, Zq, Zp, ev, sput, Zt, Zz, Yb, unK, Zd, Zw, Nat.reduceBEq, Nat.reduceAdd, Int.reduceBEq, Int.reduceBNe, Int.reduceLT, Zu, Ya, tup, tyf], by simp only [hF, hMz j hj' hz]⟩
        | true =>
          rw [hbt, if_pos rfl] at hbit
          simp (maxSteps := 2000000) only [s56, ↓Za, ↓Zo, ↓Zr, ↓Ze, ↓Zi, ↓Zs, ↓Zf, ↓Zl, ↓Zg, ↓Zc, ↓Zb, ↓vdn, vup, Zh, Zk, Zm, Zn, Zj, List.map_cons, List.map_nil, cond_true, cond_false, aop, Zv, Zq, Zp, ev, sput, Zt, Zz, Yb, unK, Zd, Zw, Nat.reduceBEq, Nat.reduceAdd, Int.reduceBEq, Int.reduceBNe, Int.reduceLT, Zu, Ya, tup, tyf, hbit, Int.natCast_nonneg, e11]
          refine hN15 [(0, u), (1, v), (4, .slice none 0 0), (5, .slice (some ⟨h.length, 0, none⟩) n n), (7, .pointer (some ⟨p7, 0, none⟩)), (8, .pointer (some ⟨p7 + 1, 0, none⟩)), (9, .pointer (some ⟨p7 + 2, 0, none⟩)), (10, Zx (tkS L k : Nat)), (13, Zx (j : Nat)), (20, .bool false), (106, v), (107, Zx n), (108, Zx (j : Nat)), (115, .bool true)] _ _ ?_ (by simp (maxSteps := 2000000) only [↓Za, ↓Zo, ↓Zr, ↓Ze, ↓Zi, ↓Zs, ↓Zf, ↓Zl, ↓Zg, ↓Zc, ↓Zb, ↓vdn, vup, Zh, Zk, Zm, Zn, Zj, List.map_cons, List.map_nil, cond_true, cond_false, aop, Zv, Zq, Zp, ev, sput, Zt, Zz, Yb, unK, Zd, Zw, Nat.reduceBEq, Nat.reduceAdd, Int.reduceBEq, Int.reduceBNe, Int.reduceLT, Zu, Ya, tup, tyf])
          clear hN15
          try clear N15
          refine Wc rfl ?_
          refine Yd ?_
          obtain ⟨p, hpe⟩ : ∃ p, xs.getD j 0 = p := ⟨_, rfl⟩
          obtain ⟨q, hqe⟩ : ∃ p, ys.getD j 0 = p := ⟨_, rfl⟩
          have pa := rc.a j hjx
          have qb := rc.b j hjy
          rw [hpe] at pa
          rw [hqe] at qb
          have huF := Xv hu (hFE j)
          have hvF := Xv hv (hFE j)
          have va : Xa prog 68 [Zx p, Zx 12] (F j) (qV (gVa xs j)) := by
            have := Vh (h := F j) (a := p) (b := 12) (by decide) (by omega) (by decide)
            rw [gVa, hpe]; exact this
          have rVa : Rp 12 p (gVa xs j) := by rw [gVa, hpe]; exact Rp.of_frac (N := 12) (by decide) p
          obtain ⟨b1, b2, b3⟩ := gVb_pos rc hpL hjx
          obtain ⟨z, rVb⟩ := rp_of (by decide) b3
          have zb := rVb.bound (C := 1) (Rat.le_trans (by decide) (Rat.le_of_lt b1)) b2
          have rM := rK.mul rVb
          have Xz : (X * z).natAbs ≤ 332640 * 27720 := by rw [Int.natAbs_mul]; exact Nat.mul_le_mul nK (by omega)
          have m1r : Rp 1 (-1) (((-1 : Int)) : Rat) := ⟨by decide, by decide +kernel⟩
          have rN := m1r.mul rM
          have kq : K / ((q : Int) : Rat) = K * gVb ys j := by
            rw [gVb, hqe, Rat.divInt_eq_div, Rat.div_def, Rat.div_def]; congr 1; rw [show (((1 : Int)) : Rat) = 1 from rfl, Rat.one_mul]
          have lK := Nat.le_trans rK.le nK
          have dK := Nat.le_trans rK.den_le (show 12 * y ≤ 332640 by omega)
          have lM := Nat.le_trans rM.le Xz
          have dM := Nat.le_trans rM.den_le (show 12 * y * 27720 ≤ 332640 * 27720 by omega)
          have lN := Nat.le_trans rN.le (show (-1 * (X * z)).natAbs ≤ 332640 * 27720 by omega)
          have dN := Nat.le_trans rN.den_le (show 1 * (12 * y * 27720) ≤ 332640 * 27720 by omega)
          have lV := Nat.le_trans rVa.le (show p.natAbs ≤ 12 by omega)
          have dV := rVa.den_le
          have w1 : Xa prog 66 [Zx (-1)] (F j) (qV (((-1 : Int)) : Rat)) := rwhole_call
          have wb : Xa prog 66 [Zx q] (F j) (qV ((q : Int) : Rat)) := rwhole_call
          have qn : ((q : Int) : Rat).num = q := rfl
          have qd : ((q : Int) : Rat).den = 1 := rfl
          have ov : Xa prog 96 [qV K, qV ((q : Int) : Rat)] (F j) (qV (K * gVb ys j)) := by
            rw [← kq]
            refine rover_call (fun hc => ?_) ?_ ?_
            · have : q = 0 := by exact_mod_cast hc
              omega
            · rw [qd]; omega
            · rw [qn, Int.natAbs_mul, Int.natAbs_natCast]; exact Nat.lt_of_le_of_lt (Nat.mul_le_mul dK (show q.natAbs ≤ 12 by omega)) (by decide)
          obtain ⟨Y, hY⟩ : ∃ Y, K * gVb ys j = Y := ⟨_, rfl⟩
          rw [hY] at ov lM dM lN dN
          have m1n : (((-1 : Int)) : Rat).num = -1 := rfl
          have m1d : (((-1 : Int)) : Rat).den = 1 := rfl
          have tm : Xa prog 97 [qV (((-1 : Int)) : Rat), qV Y] (F j) (qV (((-1 : Int) : Rat) * Y)) := rtimes_call (by rw [m1n]; omega) (by rw [m1d]; omega)
          obtain ⟨W, hW⟩ : ∃ W, (((-1 : Int) : Rat)) * Y = W := ⟨_, rfl⟩
          rw [hW] at tm lN dN
          have pl : Xa prog 67 [qV (gVa xs j), qV W] (F j) (qV (gVa xs j + W)) := rplus_call (by
            rw [Int.natAbs_mul, Int.natAbs_mul, Int.natAbs_natCast, Int.natAbs_natCast]
            exact Nat.lt_of_le_of_lt (Nat.add_le_add (Nat.mul_le_mul lV dN) (Nat.mul_le_mul lN dV)) (by decide)) (Nat.lt_of_le_of_lt (Nat.mul_le_mul dV dN) (by decide))
          have hgq : gVa xs j + W = growQ xs ys L K k j := by rw [growQ, hbt, if_pos rfl, hY, hW]
          have hst := hMs j hj'
          rw [← hgq] at hst
          obtain ⟨T, hT⟩ : ∃ T, gVa xs j + W = T := ⟨_, rfl⟩
          rw [hT] at pl hst
          have psF := Wk (e := 26) (ro := false) (hF0 j)
          rw [hMl j hj] at psF
          have hjl : j < (M j).length := by rw [hMl j hj]; exact hj'
          have hsto : ∀ {K' : Yc → Prop}, Xj prog (F j) 26 (.pointer (some ⟨h.length, j * 2, none⟩)) (.agg #[Zx T.num, Zx T.den]) K' = K' (F (j + 1)) := fun {K'} => by
            rw [storePC (hF0 j) shp_26 hjl, ← hFs, ← hst]; rfl
          simp only [q56_25]
          refine Xd [(6, 1), (7, 1), (13, 1), (14, 1), (15, 1), (16, 1)] (by kernel_rfl) (by kernel_rfl) (by kernel_rfl) (by kernel_rfl) ?_
          refine Xn 7 rfl fun N1 hN1 => ?_
          simp (maxSteps := 2000000) only [s56, ↓Za, ↓Zo, ↓Zr, ↓Ze, ↓Zi, ↓Zs, ↓Zf, ↓Zl, ↓Zg, ↓Zc, ↓Zb, ↓vdn, vup, Zh, Zk, Zm, Zn, Zj, List.map_cons, List.map_nil, cond_true, cond_false, aop, Zv, Zq, Zp, ev, sput, Zt, Zz, Yb, unK, Zd, Zw, Nat.reduceBEq, Nat.reduceAdd, Int.reduceBEq, Int.reduceBNe, Int.reduceLT, Zu, Ya, tup, tyf, List.take_succ_cons, List.take_zero, huF.idx Xu Xp hjx, huF.load Xl hjx, hpe, Yr, List.nil_append, List.append_nil, List.toList_toArray, List.cons_append]
          refine ⟨_, _, va, rfl, ?_⟩
          refine hN1 _ _ ?_
          clear hN1 N1
          refine Xn 1 rfl fun N1 hN1 => ?_
          simp (maxSteps := 2000000) only [s56, ↓Za, ↓Zo, ↓Zr, ↓Ze, ↓Zi, ↓Zs, ↓Zf, ↓Zl, ↓Zg, ↓Zc, ↓Zb, ↓vdn, vup, Zh, Zk, Zm, Zn, Zj, List.map_cons, List.map_nil, cond_true, cond_false, aop, Zv, Zq, Zp, ev, sput, Zt, Zz, Yb, unK, Zd, Zw, Nat.reduceBEq, Nat.reduceAdd, Int.reduceBEq, Int.reduceBNe, Int.reduceLT, Zu, Ya, tup, tyf, List.drop_succ_cons, List.drop_zero, List.take_succ_cons, List.take_zero, Yr, List.nil_append, List.append_nil, List.toList_toArray, List.cons_append]
          refine ⟨_, _, w1, rfl, ?_⟩
          refine hN1 _ _ ?_
          clear hN1 N1
          refine Xn 6 rfl fun N1 hN1 => ?_
          simp (maxSteps := 2000000) only [s56, ↓Za, ↓Zo, ↓Zr, ↓Ze, ↓Zi, ↓Zs, ↓Zf, ↓Zl, ↓Zg, ↓Zc, ↓Zb, ↓vdn, vup, Zh, Zk, Zm, Zn, Zj, List.map_cons, List.map_nil, cond_true, cond_false, aop, Zv, Zq, Zp, ev, sput, Zt, Zz, Yb, unK, Zd, Zw, Nat.reduceBEq, Nat.reduceAdd, Int.reduceBEq, Int.reduceBNe, Int.reduceLT, Zu, Ya, tup, tyf, List.drop_succ_cons, List.drop_zero, List.take_succ_cons, List.take_zero, Wz (f7F j), hvF.idx Xu Xp hjy, hvF.load Xl hjy, hqe, Yr, List.nil_append, List.append_nil, List.toList_toArray, List.cons_append]
          refine ⟨_, _, wb, rfl, ?_⟩
          refine hN1 _ _ ?_
          clear hN1 N1
          refine Xn 1 rfl fun N1 hN1 => ?_
          simp (maxSteps := 2000000) only [s56, ↓Za, ↓Zo, ↓Zr, ↓Ze, ↓Zi, ↓Zs, ↓Zf, ↓Zl, ↓Zg, ↓Zc, ↓Zb, ↓vdn, vup, Zh, Zk, Zm, Zn, Zj, List.map_cons, List.map_nil, cond_true, cond_false, aop, Zv, Zq, Zp, ev, sput, Zt, Zz, Yb, unK, Zd, Zw, Nat.reduceBEq, Nat.reduceAdd, Int.reduceBEq, Int.reduceBNe, Int.reduceLT, Zu, Ya, tup, tyf, List.drop_succ_cons, List.drop_zero, List.take_succ_cons, List.take_zero, Yr, List.nil_append, List.append_nil, List.toList_toArray, List.cons_append]
          refine ⟨_, _, ov, rfl, ?_⟩
          refine hN1 _ _ ?_
          clear hN1 N1
          refine Xn 1 rfl fun N1 hN1 => ?_
          simp (maxSteps := 2000000) only [s56, ↓Za, ↓Zo, ↓Zr, ↓Ze, ↓Zi, ↓Zs, ↓Zf, ↓Zl, ↓Zg, ↓Zc, ↓Zb, ↓vdn, vup, Zh, Zk, Zm, Zn, Zj, List.map_cons, List.map_nil, cond_true, cond_false, aop, Zv, Zq, Zp, ev, sput, Zt, Zz, Yb, unK, Zd, Zw, Nat.reduceBEq, Nat.reduceAdd, Int.reduceBEq, Int.reduceBNe, Int.reduceLT, Zu, Ya, tup, tyf, List.drop_succ_cons, List.drop_zero, List.take_succ_cons, List.take_zero, Yr, List.nil_append, List.append_nil, List.toList_toArray, List.cons_append]
          refine ⟨_, _, tm, rfl, ?_⟩
          refine hN1 _ _ ?_
          clear hN1 N1
          refine Xn 1 rfl fun N1 hN1 => ?_
          simp (maxSteps := 2000000) only [s56, ↓Za, ↓Zo, ↓Zr, ↓Ze, ↓Zi, ↓Zs, ↓Zf, ↓Zl, ↓Zg, ↓Zc, ↓Zb, ↓vdn, vup, Zh, Zk, Zm, Zn, Zj, List.map_cons, List.map_nil, cond_true, cond_false, aop, Zv, Zq, Zp, ev, sput, Zt, Zz, Yb, unK, Zd, Zw, Nat.reduceBEq, Nat.reduceAdd, Int.reduceBEq, Int.reduceBNe, Int.reduceLT, Zu, Ya, tup, tyf, List.drop_succ_cons, List.drop_zero, List.take_succ_cons, List.take_zero, Yr, List.nil_append, List.append_nil, List.toList_toArray, List.cons_append]
          refine ⟨_, _, pl, rfl, ?_⟩
          refine hN1 _ _ ?_
          clear hN1 N1
          simp (maxSteps := 2000000) only [s56, ↓Za, ↓Zo, ↓Zr, ↓Ze, ↓Zi, ↓Zs, ↓Zf, ↓Zl, ↓Zg, ↓Zc, ↓Zb, ↓vdn, vup, Zh, Zk, Zm, Zn, Zj, List.map_cons, List.map_nil, cond_true, cond_false, aop, Zv, Zq, Zp, ev, sput, Zt, Zz, Yb, unK, Zd, Zw, Nat.reduceBEq, Nat.reduceAdd, Int.reduceBEq, Int.reduceBNe, Int.reduceLT, Zu, Ya, tup, tyf, List.drop_succ_cons, List.drop_zero, qV, frV, psF.idx el_47 Vm hjl, elemP_pair, hsto]
          refine hB [(0, u), (1, v), (4, .slice none 0 0), (5, .slice (some ⟨h.length, 0, none⟩) n n), (7, .pointer (some ⟨p7, 0, none⟩)), (8, .pointer (some ⟨p7 + 1, 0, none⟩)), (9, .pointer (some ⟨p7 + 2, 0, none⟩)), (10, Zx (tkS L k : Nat)), (20, .bool false), (106, v), (107, Zx n), (108, Zx (j : Nat))] _ _ ?_ (by simp (maxSteps := 2000000) only [↓Za, ↓Zo, ↓Zr, ↓Ze, ↓Zi, ↓Zs, ↓Zf, ↓Zl, ↓Zg, ↓Zc, ↓Zb, ↓vdn, vup, Zh, Zk, Zm, Zn, Zj, List.map_cons, List.map_nil, cond_true, cond_false, aop, Zv, Zq, Zp, ev, sput, Zt, Zz, Yb, unK, Zd, Zw, Nat.reduceBEq, Nat.reduceAdd, Int.reduceBEq, Int.reduceBNe, Int.reduceLT, Zu, Ya, tup, tyf])
          clear hB
          try clear B
          refine Yd ?_
          simp (maxSteps := 2000000) only [s56, ↓Za, ↓Zo, ↓Zr, ↓Ze, ↓Zi, ↓Zs, ↓Zf, ↓Zl, ↓Zg, ↓Zc, ↓Zb, ↓vdn, vup, Zh, Zk, Zm, Zn, Zj, List.map_cons, List.map_nil, cond_true, cond_false, aop, Zv, Zq, Zp, ev, sput, Zt, Zz, Yb, unK, Zd, Zw, Nat.reduceBEq, Nat.reduceAdd, Int.reduceBEq, Int.reduceBNe, Int.reduceLT, Zu, Ya, tup, tyf, add1 (show j < 9223372036854775807 by omega)]
          exact hQ2 _ _ _ ⟨j + 1, hj', by omega, by simp (maxSteps := 2000000) only [↓Za, ↓Zo, ↓Zr, ↓Ze, ↓Zi, ↓Zs, ↓Zf, ↓Zl, ↓Zg, ↓Zc, ↓Zb, ↓vdn, vup, Zh, Zk, Zm, Zn, Zj, List.map_cons, List.map_nil, cond_true, cond_false, aop, Zv, Zq, Zp, ev, sput, Zt, Zz, Yb, unK, Zd, Zw, Nat.reduceBEq, Nat.reduceAdd, Int.reduceBEq, Int.reduceBNe, Int.reduceLT, Zu, Ya, tup, tyf], rfl⟩
      · obtain rfl : n = j := by omega
        refine Zy fun N16 hN16 => ?_
        simp (maxSteps := 2000000) only [s56, ↓Za, ↓Zo, ↓Zr, ↓Ze, ↓Zi, ↓Zs, ↓Zf, ↓Zl, ↓Zg, ↓Zc, ↓Zb, ↓vdn, vup, Zh, Zk, Zm, Zn, Zj, List.map_cons, List.map_nil, cond_true, cond_false, aop, Zv, Zq, Zp, ev, sput, Zt, Zz, Yb, unK, Zd, Zw, Nat.reduceBEq, Nat.reduceAdd, Int.reduceBEq, Int.reduceBNe, Int.reduceLT, Zu, Ya, tup, tyf, hin]
        refine hN16 [(0, u), (1, v), (4, .slice none 0 0), (5, .slice (some ⟨h.length, 0, none⟩) n n), (7, .pointer (some ⟨p7, 0, none⟩)), (8, .pointer (some ⟨p7 + 1, 0, none⟩)), (9, .pointer (some ⟨p7 + 2, 0, none⟩)), (10, Zx (tkS L k : Nat)), (20, .bool false), (106, v), (107, Zx n), (108, Zx (n : Nat)), (109, .bool false)] _ _ ?_ (by simp (maxSteps := 2000000) only [↓Za, ↓Zo, ↓Zr, ↓Ze, ↓Zi, ↓Zs, ↓Zf, ↓Zl, ↓Zg, ↓Zc, ↓Zb, ↓vdn, vup, Zh, Zk, Zm, Zn, Zj, List.map_cons, List.map_nil, cond_true, cond_false, aop, Zv, Zq, Zp, ev, sput, Zt, Zz, Yb, unK, Zd, Zw, Nat.reduceBEq, Nat.reduceAdd, Int.reduceBEq, Int.reduceBNe, Int.reduceLT, Zu, Ya, tup, tyf])
        clear hN16
        try clear N16
        refine Zy fun N17 hN17 => ?_
        simp (maxSteps := 2000000) only [s56, ↓Za, ↓Zo, ↓Zr, ↓Ze, ↓Zi, ↓Zs, ↓Zf, ↓Zl, ↓Zg, ↓Zc, ↓Zb, ↓vdn, vup, Zh, Zk, Zm, Zn, Zj, List.map_cons, List.map_nil, cond_true, cond_false, aop, Zv, Zq, Zp, ev, sput, Zt, Zz, Yb, unK, Zd, Zw, Nat.reduceBEq, Nat.reduceAdd, Int.reduceBEq, Int.reduceBNe, Int.reduceLT, Zu, Ya, tup, tyf]
        refine hQ2 _ _ _ (hQ _ _ _ ?_)
        simp (maxSteps := 2000000) only [s56, ↓Za, ↓Zo, ↓Zr, ↓Ze, ↓Zi, ↓Zs, ↓Zf, ↓Zl, ↓Zg, ↓Zc, ↓Zb, ↓vdn, vup, Zh, Zk, Zm, Zn, Zj, List.map_cons, List.map_nil, cond_true, cond_false, aop, Zv, Zq, Zp, ev, sput, Zt, Zz, Yb, unK, Zd, Zw, Nat.reduceBEq, Nat.reduceAdd, Int.reduceBEq, Int.reduceBNe, Int.reduceLT, Zu, Ya, tup, tyf, if_true]
        refine hY [(0, u), (1, v), (4, .slice none 0 0), (5, .slice (some ⟨h.length, 0, none⟩) n n), (7, .pointer (some ⟨p7, 0, none⟩)), (8, .pointer (some ⟨p7 + 1, 0, none⟩)), (9, .pointer (some ⟨p7 + 2, 0, none⟩)), (10, Zx (tkS L k : Nat)), (20, .bool false), (109, .bool false)] _ _ ?_ (by simp (maxSteps := 2000000) only [↓Za, ↓Zo, ↓Zr, ↓Ze, ↓Zi, ↓Zs, ↓Zf, ↓Zl, ↓Zg, ↓Zc, ↓Zb, ↓vdn, vup, Zh, Zk, Zm, Zn, Zj, List.map_cons, List.map_nil, cond_true, cond_false, aop, Zv, Zq, Zp, ev, sput, Zt, Zz, Yb, unK, Zd, Zw, Nat.reduceBEq, Nat.reduceAdd, Int.reduceBEq, Int.reduceBNe, Int.reduceLT, Zu, Ya, tup, tyf])
        clear hY
        try clear Y
        have psF := Wk (e := 26) (ro := false) (hF0 n)
        rw [hMn, hgl] at psF
        refine Yd ?_
        simp (maxSteps := 2000000) only [s56, ↓Za, ↓Zo, ↓Zr, ↓Ze, ↓Zi, ↓Zs, ↓Zf, ↓Zl, ↓Zg, ↓Zc, ↓Zb, ↓vdn, vup, Zh, Zk, Zm, Zn, Zj, List.map_cons, List.map_nil, cond_true, cond_false, aop, Zv, Zq, Zp, ev, sput, Zt, Zz, Yb, unK, Zd, Zw, Nat.reduceBEq, Nat.reduceAdd, Int.reduceBEq, Int.reduceBNe, Int.reduceLT, Zu, Ya, tup, tyf]
        exact ⟨hFE n, k, gp, by rw [hK]; exact psF⟩
    refine Yf ?_
    refine Yh fun Q hQ => ?_
    refine Yv (γ := Nat × Yc) (fun s => s.1 ≤ xs.length ∧ (∀ j, j < s.1 → gK xs ys L j < gVv xs ys (L.getD j 0)) ∧ Ext (fun _ => False) G s.2 ∧ p7 + 3 ≤ s.2.length ∧ s.2[p7]? = some (fC (gK xs ys L s.1).num (gK xs ys L s.1).den) ∧ s.2[p7 + 1]? = some (fC (gP xs L s.1).num (gP xs L s.1).den) ∧ s.2[p7 + 2]? = some (fC (gQ ys L s.1).num (gQ ys L s.1).den))
      (fun s => ([(0, u), (1, v), (4, .slice none 0 0), (5, .slice (some ⟨h.length, 0, none⟩) n n), (7, .pointer (some ⟨p7, 0, none⟩)), (8, .pointer (some ⟨p7 + 1, 0, none⟩)), (9, .pointer (some ⟨p7 + 2, 0, none⟩)), (10, Zx (tkS L s.1 : Nat)), (20, .bool false)], s.2)) (fun s => xs.length - s.1) (0, G2) ⟨Nat.zero_le _, fun j hj => by omega, hEG2, by simp only; omega, by simp only; rw [gK0, n1, n2]; exact e7, by simp only; rw [gP0, n1, n2]; exact e8, by simp only; rw [gQ0, n1, n2]; exact e9⟩ (by simp (maxSteps := 2000000) only [↓Za, ↓Zo, ↓Zr, ↓Ze, ↓Zi, ↓Zs, ↓Zf, ↓Zl, ↓Zg, ↓Zc, ↓Zb, ↓vdn, vup, Zh, Zk, Zm, Zn, Zj, List.map_cons, List.map_nil, cond_true, cond_false, aop, Zv, Zq, Zp, ev, sput, Zt, Zz, Yb, unK, Zd, Zw, Nat.reduceBEq, Nat.reduceAdd, Int.reduceBEq, Int.reduceBNe, Int.reduceLT, Zu, Ya, tup, tyf, tk0]) rfl ?_
    rintro ⟨k, hp⟩ ⟨hk, hco, hEp, hl3, f7, f8, f9⟩
    simp only at hk hco hEp hl3 f7 f8 f9
    refine Yh fun Q2 hQ2 => ?_
    simp only [l56_2]
    have hup := Xv huG hEp
    have hvp := Xv hvG hEp
    refine Yf ?_
    refine Zy fun N18 hN18 => ?_
    simp (maxSteps := 2000000) only [s56, ↓Za, ↓Zo, ↓Zr, ↓Ze, ↓Zi, ↓Zs, ↓Zf, ↓Zl, ↓Zg, ↓Zc, ↓Zb, ↓vdn, vup, Zh, Zk, Zm, Zn, Zj, List.map_cons, List.map_nil, cond_true, cond_false, aop, Zv, Zq, Zp, ev, sput, Zt, Zz, Yb, unK, Zd, Zw, Nat.reduceBEq, Nat.reduceAdd, Int.reduceBEq, Int.reduceBNe, Int.reduceLT, Zu, Ya, tup, tyf]
    refine hN18 [(0, u), (1, v), (4, .slice none 0 0), (5, .slice (some ⟨h.length, 0, none⟩) n n), (7, .pointer (some ⟨p7, 0, none⟩)), (8, .pointer (some ⟨p7 + 1, 0, none⟩)), (9, .pointer (some ⟨p7 + 2, 0, none⟩)), (10, Zx (tkS L k : Nat)), (11, .int .i64 (-1)), (20, .bool false)] _ _ ?_ (by simp (maxSteps := 2000000) only [↓Za, ↓Zo, ↓Zr, ↓Ze, ↓Zi, ↓Zs, ↓Zf, ↓Zl, ↓Zg, ↓Zc, ↓Zb, ↓vdn, vup, Zh, Zk, Zm, Zn, Zj, List.map_cons, List.map_nil, cond_true, cond_false, aop, Zv, Zq, Zp, ev, sput, Zt, Zz, Yb, unK, Zd, Zw, Nat.reduceBEq, Nat.reduceAdd, Int.reduceBEq, Int.reduceBNe, Int.reduceLT, Zu, Ya, tup, tyf])
    clear hN18
    try clear N18
    have hts : tkS L k < 9223372036854775808 := by
      have : tkS L k < 2 ^ 12 := Nat.lt_pow_two_of_testBit _ fun i hi => by
        rw [← Bool.not_eq_true, tkS_bit]
        rintro ⟨j, h1, h2⟩
        have := ltL j (by omega); omega
      omega
    refine Ye fun S hS => ?_
    refine Zy fun N19 hN19 => ?_
    simp (maxSteps := 2000000) only [s56, ↓Za, ↓Zo, ↓Zr, ↓Ze, ↓Zi, ↓Zs, ↓Zf, ↓Zl, ↓Zg, ↓Zc, ↓Zb, ↓vdn, vup, Zh, Zk, Zm, Zn, Zj, List.map_cons, List.map_nil, cond_true, cond_false, aop, Zv, Zq, Zp, ev, sput, Zt, Zz, Yb, unK, Zd, Zw, Nat.reduceBEq, Nat.reduceAdd, Int.reduceBEq, Int.reduceBNe, Int.reduceLT, Zu, Ya, tup, tyf, hlv]
    refine hN19 [(0, u), (1, v), (4, .slice none 0 0), (5, .slice (some ⟨h.length, 0, none⟩) n n), (7, .pointer (some ⟨p7, 0, none⟩)), (8, .pointer (some ⟨p7 + 1, 0, none⟩)), (9, .pointer (some ⟨p7 + 2, 0, none⟩)), (10, Zx (tkS L k : Nat)), (11, .int .i64 (-1)), (20, .bool false), (30, v), (31, Zx n), (32, .int .i64 0)] _ _ ?_ (by simp (maxSteps := 2000000) only [↓Za, ↓Zo, ↓Zr, ↓Ze, ↓Zi, ↓Zs, ↓Zf, ↓Zl, ↓Zg, ↓Zc, ↓Zb, ↓vdn, vup, Zh, Zk, Zm, Zn, Zj, List.map_cons, List.map_nil, cond_true, cond_false, aop, Zv, Zq, Zp, ev, sput, Zt, Zz, Yb, unK, Zd, Zw, Nat.reduceBEq, Nat.reduceAdd, Int.reduceBEq, Int.reduceBNe, Int.reduceLT, Zu, Ya, tup, tyf])
    clear hN19
    try clear N19
    refine Yf ?_
    refine Yh fun Q3 hQ3 => ?_
    refine Yv (γ := Nat) (fun t => t ≤ n) (fun t => ([(0, u), (1, v), (4, .slice none 0 0), (5, .slice (some ⟨h.length, 0, none⟩) n n), (7, .pointer (some ⟨p7, 0, none⟩)), (8, .pointer (some ⟨p7 + 1, 0, none⟩)), (9, .pointer (some ⟨p7 + 2, 0, none⟩)), (10, Zx (tkS L k : Nat)), (11, Zx (optI (Va val (tkS L k) t))), (20, .bool false), (30, v), (31, Zx n), (32, Zx (t : Nat))], hp)) (fun t => n - t) 0 (Nat.zero_le _) (by simp (maxSteps := 2000000) only [↓Za, ↓Zo, ↓Zr, ↓Ze, ↓Zi, ↓Zs, ↓Zf, ↓Zl, ↓Zg, ↓Zc, ↓Zb, ↓vdn, vup, Zh, Zk, Zm, Zn, Zj, List.map_cons, List.map_nil, cond_true, cond_false, aop, Zv, Zq, Zp, ev, sput, Zt, Zz, Yb, unK, Zd, Zw, Nat.reduceBEq, Nat.reduceAdd, Int.reduceBEq, Int.reduceBNe, Int.reduceLT, Zu, Ya, tup, tyf, Int.natCast_zero, Va, optI]) rfl ?_
    rintro t ht
    refine Yh fun Q4 hQ4 => ?_
    simp only [l56_1]
    by_cases hin2 : (t : Int) < n
    · have ht' : t < n := by omega
      have htx : t < xs.length := by omega
      have hty : t < ys.length := by omega
      have hbit := testV (y := t) hts
      have bs' := bstTo_spec val (tkS L k) t
      obtain ⟨bz, hBz⟩ : ∃ B, optI (Va val (tkS L k) t) = B := ⟨_, rfl⟩
      rw [hBz]
      obtain ⟨p, hpe⟩ : ∃ p, xs.getD t 0 = p := ⟨_, rfl⟩
      obtain ⟨q, hqe⟩ : ∃ p, ys.getD t 0 = p := ⟨_, rfl⟩
      have pa := rc.a t htx
      have qb := rc.b t hty
      rw [hpe] at pa
      rw [hqe] at qb
      have pq : (p * q).natAbs ≤ 144 := by rw [Int.natAbs_mul]; exact Nat.mul_le_mul (show p.natAbs ≤ 12 by omega) (show q.natAbs ≤ 12 by omega)
      have m1 : mulV .i64 p q = p * q := mulV_id (by omega) (by omega)
      have vt : val t = p * q := by rw [hval, ← hpe, ← hqe]
      have z1 : ((1 : Int) == 0) = false := rfl
      have z0' : ((0 : Int) == 0) = true := rfl
      refine Zy fun N20 hN20 => ?_
      simp (maxSteps := 2000000) only [s56, ↓Za, ↓Zo, ↓Zr, ↓Ze, ↓Zi, ↓Zs, ↓Zf, ↓Zl, ↓Zg, ↓Zc, ↓Zb, ↓vdn, vup, Zh, Zk, Zm, Zn, Zj, List.map_cons, List.map_nil, cond_true, cond_false, aop, Zv, Zq, Zp, ev, sput, Zt, Zz, Yb, unK, Zd, Zw, Nat.reduceBEq, Nat.reduceAdd, Int.reduceBEq, Int.reduceBNe, Int.reduceLT, Zu, Ya, tup, tyf, hin2]
      refine hN20 [(0, u), (1, v), (4, .slice none 0 0), (5, .slice (some ⟨h.length, 0, none⟩) n n), (7, .pointer (some ⟨p7, 0, none⟩)), (8, .pointer (some ⟨p7 + 1, 0, none⟩)), (9, .pointer (some ⟨p7 + 2, 0, none⟩)), (10, Zx (tkS L k : Nat)), (11, Zx bz), (20, .bool false), (30, v), (31, Zx n), (32, Zx (t : Nat)), (33, .bool true)] _ _ ?_ (by simp (maxSteps := 2000000) only [↓Za, ↓Zo, ↓Zr, ↓Ze, ↓Zi, ↓Zs, ↓Zf, ↓Zl, ↓Zg, ↓Zc, ↓Zb, ↓vdn, vup, Zh, Zk, Zm, Zn, Zj, List.map_cons, List.map_nil, cond_true, cond_false, aop, Zv, Zq, Zp, ev, sput, Zt, Zz, Yb, unK, Zd, Zw, Nat.reduceBEq, Nat.reduceAdd, Int.reduceBEq, Int.reduceBNe, Int.reduceLT, Zu, Ya, tup, tyf])
      clear hN20
      try clear N20
      refine Zy fun N21 hN21 => ?_
      simp (maxSteps := 2000000) only [s56, ↓Za, ↓Zo, ↓Zr, ↓Ze, ↓Zi, ↓Zs, ↓Zf, ↓Zl, ↓Zg, ↓Zc, ↓Zb, ↓vdn, vup, Zh, Zk, Zm, Zn, Zj, List.map_cons, List.map_nil, cond_true, cond_false, aop, Zv, Zq, Zp, ev, sput, Zt, Zz, Yb, unK, Zd, Zw, Nat.reduceBEq, Nat.reduceAdd, Int.reduceBEq, Int.reduceBNe, Int.reduceLT, Zu, Ya, tup, tyf]
      refine hN21 [(0, u), (1, v), (4, .slice none 0 0), (5, .slice (some ⟨h.length, 0, none⟩) n n), (7, .pointer (some ⟨p7, 0, none⟩)), (8, .pointer (some ⟨p7 + 1, 0, none⟩)), (9, .pointer (some ⟨p7 + 2, 0, none⟩)), (10, Zx (tkS L k : Nat)), (11, Zx bz), (20, .bool false), (30, v), (31, Zx n), (32, Zx (t : Nat))] _ _ ?_ (by simp (maxSteps := 2000000) only [↓Za, ↓Zo, ↓Zr, ↓Ze, ↓Zi, ↓Zs, ↓Zf, ↓Zl, ↓Zg, ↓Zc, ↓Zb, ↓vdn, vup, Zh, Zk, Zm, Zn, Zj, List.map_cons, List.map_nil, cond_true, cond_false, aop, Zv, Zq, Zp, ev, sput, Zt, Zz, Yb, unK, Zd, Zw, Nat.reduceBEq, Nat.reduceAdd, Int.reduceBEq, Int.reduceBNe, Int.reduceLT, Zu, Ya, tup, tyf])
      clear hN21
      try clear N21
      refine Ye fun B hB => ?_
      refine Yf ?_
      refine Zy fun N22 hN22 => ?_
      simp (maxSteps := 2000000) only [s56, ↓Za, ↓Zo, ↓Zr, ↓Ze, ↓Zi, ↓Zs, ↓Zf, ↓Zl, ↓Zg, ↓Zc, ↓Zb, ↓vdn, vup, Zh, Zk, Zm, Zn, Zj, List.map_cons, List.map_nil, cond_true, cond_false, aop, Zv, Zq, Zp, ev, sput, Zt, Zz, Yb, unK, Zd, Zw, Nat.reduceBEq, Nat.reduceAdd, Int.reduceBEq, Int.reduceBNe, Int.reduceLT, Zu, Ya, tup, tyf]
      refine hN22 [(0, u), (1, v), (4, .slice none 0 0), (5, .slice (some ⟨h.length, 0, none⟩) n n), (7, .pointer (some ⟨p7, 0, none⟩)), (8, .pointer (some ⟨p7 + 1, 0, none⟩)), (9, .pointer (some ⟨p7 + 2, 0, none⟩)), (10, Zx (tkS L k : Nat)), (11, Zx bz), (12, Zx (t : Nat)), (20, .bool false), (30, v), (31, Zx n), (32, Zx (t : Nat))] _ _ ?_ (by simp (maxSteps := 2000000) only [↓Za, ↓Zo, ↓Zr, ↓Ze, ↓Zi, ↓Zs, ↓Zf, ↓Zl, ↓Zg, ↓Zc, ↓Zb, ↓vdn, vup, Zh, Zk, Zm, Zn, Zj, List.map_cons, List.map_nil, cond_true, cond_false, aop, Zv, Zq, Zp, ev, sput, Zt, Zz, Yb, unK, Zd, Zw, Nat.reduceBEq, Nat.reduceAdd, Int.reduceBEq, Int.reduceBNe, Int.reduceLT, Zu, Ya, tup, tyf])
      clear hN22
      try clear N22
      refine Zy fun N23 hN23 => ?_
      simp only [q56_13]
      refine Xd [] (by kernel_rfl) (by kernel_rfl) (by kernel_rfl) (by kernel_rfl) ?_
      cases hbt : (tkS L k).testBit t with
      | true =>
        have hst : Va val (tkS L k) (t + 1) = Va val (tkS L k) t := by rw [Va, hbt, if_pos rfl]
        rw [hbt, if_pos rfl] at hbit
        simp (maxSteps := 2000000) only [s56, ↓Za, ↓Zo, ↓Zr, ↓Ze, ↓Zi, ↓Zs, ↓Zf, ↓Zl, ↓Zg, ↓Zc, ↓Zb, ↓vdn, vup, Zh, Zk, Zm, Zn, Zj, List.map_cons, List.map_nil, cond_true, cond_false, aop, Zv, Zq, Zp, ev, sput, Zt, Zz, Yb, unK, Zd, Zw, Nat.reduceBEq, Nat.reduceAdd, Int.reduceBEq, Int.reduceBNe, Int.reduceLT, Zu, Ya, tup, tyf, hbit, Int.natCast_nonneg, z1]
        refine hN23 [(0, u), (1, v), (4, .slice none 0 0), (5, .slice (some ⟨h.length, 0, none⟩) n n), (7, .pointer (some ⟨p7, 0, none⟩)), (8, .pointer (some ⟨p7 + 1, 0, none⟩)), (9, .pointer (some ⟨p7 + 2, 0, none⟩)), (10, Zx (tkS L k : Nat)), (11, Zx bz), (12, Zx (t : Nat)), (20, .bool false), (30, v), (31, Zx n), (32, Zx (t : Nat)), (64, .bool false)] _ _ ?_ (by simp (maxSteps := 2000000) only [↓Za, ↓Zo, ↓Zr, ↓Ze, ↓Zi, ↓Zs, ↓Zf, ↓Zl, ↓Zg, ↓Zc, ↓Zb, ↓vdn, vup, Zh, Zk, Zm, Zn, Zj, List.map_cons, List.map_nil, cond_true, cond_false, aop, Zv, Zq, Zp, ev, sput, Zt, Zz, Yb, unK, Zd, Zw, Nat.reduceBEq, Nat.reduceAdd, Int.reduceBEq, Int.reduceBNe, Int.reduceLT, Zu, Ya, tup, tyf])
        clear hN23
        try clear N23
        refine Xs rfl ?_
        refine Yd ?_
        simp (maxSteps := 2000000) only [s56, ↓Za, ↓Zo, ↓Zr, ↓Ze, ↓Zi, ↓Zs, ↓Zf, ↓Zl, ↓Zg, ↓Zc, ↓Zb, ↓vdn, vup, Zh, Zk, Zm, Zn, Zj, List.map_cons, List.map_nil, cond_true, cond_false, aop, Zv, Zq, Zp, ev, sput, Zt, Zz, Yb, unK, Zd, Zw, Nat.reduceBEq, Nat.reduceAdd, Int.reduceBEq, Int.reduceBNe, Int.reduceLT, Zu, Ya, tup, tyf]
        refine hB [(0, u), (1, v), (4, .slice none 0 0), (5, .slice (some ⟨h.length, 0, none⟩) n n), (7, .pointer (some ⟨p7, 0, none⟩)), (8, .pointer (some ⟨p7 + 1, 0, none⟩)), (9, .pointer (some ⟨p7 + 2, 0, none⟩)), (10, Zx (tkS L k : Nat)), (11, Zx bz), (20, .bool false), (30, v), (31, Zx n), (32, Zx (t : Nat))] _ _ ?_ (by simp (maxSteps := 2000000) only [↓Za, ↓Zo, ↓Zr, ↓Ze, ↓Zi, ↓Zs, ↓Zf, ↓Zl, ↓Zg, ↓Zc, ↓Zb, ↓vdn, vup, Zh, Zk, Zm, Zn, Zj, List.map_cons, List.map_nil, cond_true, cond_false, aop, Zv, Zq, Zp, ev, sput, Zt, Zz, Yb, unK, Zd, Zw, Nat.reduceBEq, Nat.reduceAdd, Int.reduceBEq, Int.reduceBNe, Int.reduceLT, Zu, Ya, tup, tyf])
        clear hB
        try clear B
        refine Yd ?_
        simp (maxSteps := 2000000) only [s56, ↓Za, ↓Zo, ↓Zr, ↓Ze, ↓Zi, ↓Zs, ↓Zf, ↓Zl, ↓Zg, ↓Zc, ↓Zb, ↓vdn, vup, Zh, Zk, Zm, Zn, Zj, List.map_cons, List.map_nil, cond_true, cond_false, aop, Zv, Zq, Zp, ev, sput, Zt, Zz, Yb, unK, Zd, Zw, Nat.reduceBEq, Nat.reduceAdd, Int.reduceBEq, Int.reduceBNe, Int.reduceLT, Zu, Ya, tup, tyf, add1 (show t < 9223372036854775807 by omega)]
        exact hQ4 _ _ _ ⟨t + 1, ht', by omega, by simp (maxSteps := 2000000) only [↓Za, ↓Zo, ↓Zr, ↓Ze, ↓Zi, ↓Zs, ↓Zf, ↓Zl, ↓Zg, ↓Zc, ↓Zb, ↓vdn, vup, Zh, Zk, Zm, Zn, Zj, List.map_cons, List.map_nil, cond_true, cond_false, aop, Zv, Zq, Zp, ev, sput, Zt, Zz, Yb, unK, Zd, Zw, Nat.reduceBEq, Nat.reduceAdd, Int.reduceBEq, Int.reduceBNe, Int.reduceLT, Zu, Ya, tup, tyf, hst, hBz], rfl⟩
      | false =>
        rw [hbt, if_neg (by simp)] at hbit
        cases hc : Va val (tkS L k) t with
        | none =>
          have hst : Va val (tkS L k) (t + 1) = some t := by rw [Va, hbt, if_neg (by simp), hc]
          obtain rfl : -1 = bz := by rw [← hBz, hc]; rfl
          simp (maxSteps := 2000000) only [s56, ↓Za, ↓Zo, ↓Zr, ↓Ze, ↓Zi, ↓Zs, ↓Zf, ↓Zl, ↓Zg, ↓Zc, ↓Zb, ↓vdn, vup, Zh, Zk, Zm, Zn, Zj, List.map_cons, List.map_nil, cond_true, cond_false, aop, Zv, Zq, Zp, ev, sput, Zt, Zz, Yb, unK, Zd, Zw, Nat.reduceBEq, Nat.reduceAdd, Int.reduceBEq, Int.reduceBNe, Int.reduceLT, Zu, Ya, tup, tyf, hbit, Int.natCast_nonneg, z0']
          refine hN23 [(0, u), (1, v), (4, .slice none 0 0), (5, .slice (some ⟨h.length, 0, none⟩) n n), (7, .pointer (some ⟨p7, 0, none⟩)), (8, .pointer (some ⟨p7 + 1, 0, none⟩)), (9, .pointer (some ⟨p7 + 2, 0, none⟩)), (10, Zx (tkS L k : Nat)), (11, .int .i64 (-1)), (12, Zx (t : Nat)), (20, .bool false), (30, v), (31, Zx n), (32, Zx (t : Nat)), (64, .bool true)] _ _ ?_ (by simp (maxSteps := 2000000) only [↓Za, ↓Zo, ↓Zr, ↓Ze, ↓Zi, ↓Zs, ↓Zf, ↓Zl, ↓Zg, ↓Zc, ↓Zb, ↓vdn, vup, Zh, Zk, Zm, Zn, Zj, List.map_cons, List.map_nil, cond_true, cond_false, aop, Zv, Zq, Zp, ev, sput, Zt, Zz, Yb, unK, Zd, Zw, Nat.reduceBEq, Nat.reduceAdd, Int.reduceBEq, Int.reduceBNe, Int.reduceLT, Zu, Ya, tup, tyf])
          clear hN23
          try clear N23
          refine Wc rfl ?_
          refine Yd ?_
          simp (maxSteps := 2000000) only [s56, ↓Za, ↓Zo, ↓Zr, ↓Ze, ↓Zi, ↓Zs, ↓Zf, ↓Zl, ↓Zg, ↓Zc, ↓Zb, ↓vdn, vup, Zh, Zk, Zm, Zn, Zj, List.map_cons, List.map_nil, cond_true, cond_false, aop, Zv, Zq, Zp, ev, sput, Zt, Zz, Yb, unK, Zd, Zw, Nat.reduceBEq, Nat.reduceAdd, Int.reduceBEq, Int.reduceBNe, Int.reduceLT, Zu, Ya, tup, tyf]
          refine hB [(0, u), (1, v), (4, .slice none 0 0), (5, .slice (some ⟨h.length, 0, none⟩) n n), (7, .pointer (some ⟨p7, 0, none⟩)), (8, .pointer (some ⟨p7 + 1, 0, none⟩)), (9, .pointer (some ⟨p7 + 2, 0, none⟩)), (10, Zx (tkS L k : Nat)), (11, Zx (t : Nat)), (20, .bool false), (30, v), (31, Zx n), (32, Zx (t : Nat))] _ _ ?_ (by simp (maxSteps := 2000000) only [↓Za, ↓Zo, ↓Zr, ↓Ze, ↓Zi, ↓Zs, ↓Zf, ↓Zl, ↓Zg, ↓Zc, ↓Zb, ↓vdn, vup, Zh, Zk, Zm, Zn, Zj, List.map_cons, List.map_nil, cond_true, cond_false, aop, Zv, Zq, Zp, ev, sput, Zt, Zz, Yb, unK, Zd, Zw, Nat.reduceBEq, Nat.reduceAdd, Int.reduceBEq, Int.reduceBNe, Int.reduceLT, Zu, Ya, tup, tyf])
          clear hB
          try clear B
          refine Yd ?_
          simp (maxSteps := 2000000) only [s56, ↓Za, ↓Zo, ↓Zr, ↓Ze, ↓Zi, ↓Zs, ↓Zf, ↓Zl, ↓Zg, ↓Zc, ↓Zb, ↓vdn, vup, Zh, Zk, Zm, Zn, Zj, List.map_cons, List.map_nil, cond_true, cond_false, aop, Zv, Zq, Zp, ev, sput, Zt, Zz, Yb, unK, Zd, Zw, Nat.reduceBEq, Nat.reduceAdd, Int.reduceBEq, Int.reduceBNe, Int.reduceLT, Zu, Ya, tup, tyf, add1 (show t < 9223372036854775807 by omega)]
          exact hQ4 _ _ _ ⟨t + 1, ht', by omega, by simp (maxSteps := 2000000) only [↓Za, ↓Zo, ↓Zr, ↓Ze, ↓Zi, ↓Zs, ↓Zf, ↓Zl, ↓Zg, ↓Zc, ↓Zb, ↓vdn, vup, Zh, Zk, Zm, Zn, Zj, List.map_cons, List.map_nil, cond_true, cond_false, aop, Zv, Zq, Zp, ev, sput, Zt, Zz, Yb, unK, Zd, Zw, Nat.reduceBEq, Nat.reduceAdd, Int.reduceBEq, Int.reduceBNe, Int.reduceLT, Zu, Ya, tup, tyf, hst, optI], rfl⟩
        | some c =>
          obtain rfl : (c : Int) = bz := by rw [← hBz, hc]; rfl
          rw [hc] at bs'
          obtain ⟨hct, _, _⟩ := bs'
          have hcx : c < xs.length := by omega
          have hcy : c < ys.length := by omega
          obtain ⟨r, hre⟩ : ∃ p, xs.getD c 0 = p := ⟨_, rfl⟩
          obtain ⟨s, hse⟩ : ∃ p, ys.getD c 0 = p := ⟨_, rfl⟩
          have ra := rc.a c hcx
          have sb := rc.b c hcy
          rw [hre] at ra
          rw [hse] at sb
          have rs : (r * s).natAbs ≤ 144 := by rw [Int.natAbs_mul]; exact Nat.mul_le_mul (show r.natAbs ≤ 12 by omega) (show s.natAbs ≤ 12 by omega)
          have m2 : mulV .i64 r s = r * s := mulV_id (by omega) (by omega)
          have vc : val c = r * s := by rw [hval, ← hre, ← hse]
          have c0 : ¬ ((c : Nat) : Int) < 0 := by omega
          by_cases hv : p * q > r * s
          · have hst : Va val (tkS L k) (t + 1) = some t := by rw [Va, hbt, if_neg (by simp), hc]; simp only [vt, vc]; rw [if_pos hv]
            simp (maxSteps := 2000000) only [s56, ↓Za, ↓Zo, ↓Zr, ↓Ze, ↓Zi, ↓Zs, ↓Zf, ↓Zl, ↓Zg, ↓Zc, ↓Zb, ↓vdn, vup, Zh, Zk, Zm, Zn, Zj, List.map_cons, List.map_nil, cond_true, cond_false, aop, Zv, Zq, Zp, ev, sput, Zt, Zz, Yb, unK, Zd, Zw, Nat.reduceBEq, Nat.reduceAdd, Int.reduceBEq, Int.reduceBNe, Int.reduceLT, Zu, Ya, tup, tyf, hbit, Int.natCast_nonneg, z0', c0, hup.idx Xu Xp htx, hup.load Xl htx, hvp.idx Xu Xp hty, hvp.load Xl hty, hup.idx Xu Xp hcx, hup.load Xl hcx, hvp.idx Xu Xp hcy, hvp.load Xl hcy, hpe, hqe, hre, hse, m1, m2, hv]
            refine hN23 [(0, u), (1, v), (4, .slice none 0 0), (5, .slice (some ⟨h.length, 0, none⟩) n n), (7, .pointer (some ⟨p7, 0, none⟩)), (8, .pointer (some ⟨p7 + 1, 0, none⟩)), (9, .pointer (some ⟨p7 + 2, 0, none⟩)), (10, Zx (tkS L k : Nat)), (11, Zx (c : Nat)), (12, Zx (t : Nat)), (20, .bool false), (30, v), (31, Zx n), (32, Zx (t : Nat)), (64, .bool true)] _ _ ?_ (by simp (maxSteps := 2000000) only [↓Za, ↓Zo, ↓Zr, ↓Ze, ↓Zi, ↓Zs, ↓Zf, ↓Zl, ↓Zg, ↓Zc, ↓Zb, ↓vdn, vup, Zh, Zk, Zm, Zn, Zj, List.map_cons, List.map_nil, cond_true, cond_false, aop, Zv, Zq, Zp, ev, sput, Zt, Zz, Yb, unK, Zd, Zw, Nat.reduceBEq, Nat.reduceAdd, Int.reduceBEq, Int.reduceBNe, Int.reduceLT, Zu, Ya, tup, tyf])
            clear hN23
            try clear N23
            refine Wc rfl ?_
            refine Yd ?_
            simp (maxSteps := 2000000) only [s56, ↓Za, ↓Zo, ↓Zr, ↓Ze, ↓Zi, ↓Zs, ↓Zf, ↓Zl, ↓Zg, ↓Zc, ↓Zb, ↓vdn, vup, Zh, Zk, Zm, Zn, Zj, List.map_cons, List.map_nil, cond_true, cond_false, aop, Zv, Zq, Zp, ev, sput, Zt, Zz, Yb, unK, Zd, Zw, Nat.reduceBEq, Nat.reduceAdd, Int.reduceBEq, Int.reduceBNe, Int.reduceLT, Zu, Ya, tup, tyf]
            refine hB [(0, u), (1, v), (4, .slice none 0 0), (5, .slice (some ⟨h.length, 0, none⟩) n n), (7, .pointer (some ⟨p7, 0, none⟩)), (8, .pointer (some ⟨p7 + 1, 0, none⟩)), (9, .pointer (some ⟨p7 + 2, 0, none⟩)), (10, Zx (tkS L k : Nat)), (11, Zx (t : Nat)), (20, .bool false), (30, v), (31, Zx n), (32, Zx (t : Nat))] _ _ ?_ (by simp (maxSteps := 2000000) only [↓Za, ↓Zo, ↓Zr, ↓Ze, ↓Zi, ↓Zs, ↓Zf, ↓Zl, ↓Zg, ↓Zc, ↓Zb, ↓vdn, vup, Zh, Zk, Zm, Zn, Zj, List.map_cons, List.map_nil, cond_true, cond_false, aop, Zv, Zq, Zp, ev, sput, Zt, Zz, Yb, unK, Zd, Zw, Nat.reduceBEq, Nat.reduceAdd, Int.reduceBEq, Int.reduceBNe, Int.reduceLT, Zu, Ya, tup, tyf])
            clear hB
            try clear B
            refine Yd ?_
            simp (maxSteps := 2000000) only [s56, ↓Za, ↓Zo, ↓Zr, ↓Ze, ↓Zi, ↓Zs, ↓Zf, ↓Zl, ↓Zg, ↓Zc, ↓Zb, ↓vdn, vup, Zh, Zk, Zm, Zn, Zj, List.map_cons, List.map_nil, cond_true, cond_false, aop, Zv, Zq, Zp, ev, sput, Zt, Zz, Yb, unK, Zd, Zw, Nat.reduceBEq, Nat.reduceAdd, Int.reduceBEq, Int.reduceBNe, Int.reduceLT, Zu, Ya, tup, tyf, add1 (show t < 9223372036854775807 by omega)]
            exact hQ4 _ _ _ ⟨t + 1, ht', by omega, by simp (maxSteps := 2000000) only [↓Za, ↓Zo, ↓Zr, ↓Ze, ↓Zi, ↓Zs, ↓Zf, ↓Zl, ↓Zg, ↓Zc, ↓Zb, ↓vdn, vup, Zh, Zk, Zm, Zn, Zj, List.map_cons, List.map_nil, cond_true, cond_false, aop, Zv, Zq, Zp, ev, sput, Zt, Zz, Yb, unK, Zd, Zw, Nat.reduceBEq, Nat.reduceAdd, Int.reduceBEq, Int.reduceBNe, Int.reduceLT, Zu, Ya, tup, tyf, hst, optI], rfl⟩
          · have hst : Va val (tkS L k) (t + 1) = some c := by rw [Va, hbt, if_neg (by simp), hc]; simp only [vt, vc]; rw [if_neg hv]
            simp (maxSteps := 2000000) only [s56, ↓Za, ↓Zo, ↓Zr, ↓Ze, ↓Zi, ↓Zs, ↓Zf, ↓Zl, ↓Zg, ↓Zc, ↓Zb, ↓vdn, vup, Zh, Zk, Zm, Zn, Zj, List.map_cons, List.map_nil, cond_true, cond_false, aop, Zv, Zq, Zp, ev, sput, Zt, Zz, Yb, unK, Zd, Zw, Nat.reduceBEq, Nat.reduceAdd, Int.reduceBEq, Int.reduceBNe, Int.reduceLT, Zu, Ya, tup, tyf, hbit, Int.natCast_nonneg, z0', c0, hup.idx Xu Xp htx, hup.load Xl htx, hvp.idx Xu Xp hty, hvp.load Xl hty, hup.idx Xu Xp hcx, hup.load Xl hcx, hvp.idx Xu Xp hcy, hvp.load Xl hcy, hpe, hqe, hre, hse, m1, m2, hv]
            refine hN23 [(0, u), (1, v), (4, .slice none 0 0), (5, .slice (some ⟨h.length, 0, none⟩) n n), (7, .pointer (some ⟨p7, 0, none⟩)), (8, .pointer (some ⟨p7 + 1, 0, none⟩)), (9, .pointer (some ⟨p7 + 2, 0, none⟩)), (10, Zx (tkS L k : Nat)), (11, Zx (c : Nat)), (12, Zx (t : Nat)), (20, .bool false), (30, v), (31, Zx n), (32, Zx (t : Nat)), (64, .bool false)] _ _ ?_ (by simp (maxSteps := 2000000) only [↓Za, ↓Zo, ↓Zr, ↓Ze, ↓Zi, ↓Zs, ↓Zf, ↓Zl, ↓Zg, ↓Zc, ↓Zb, ↓vdn, vup, Zh, Zk, Zm, Zn, Zj, List.map_cons, List.map_nil, cond_true, cond_false, aop, Zv, Zq, Zp, ev, sput, Zt, Zz, Yb, unK, Zd, Zw, Nat.reduceBEq, Nat.reduceAdd, Int.reduceBEq, Int.reduceBNe, Int.reduceLT, Zu, Ya, tup, tyf])
            clear hN23
            try clear N23
            refine Xs rfl ?_
            refine Yd ?_
            simp (maxSteps := 2000000) only [s56, ↓Za, ↓Zo, ↓Zr, ↓Ze, ↓Zi, ↓Zs, ↓Zf, ↓Zl, ↓Zg, ↓Zc, ↓Zb, ↓vdn, vup, Zh, Zk, Zm, Zn, Zj, List.map_cons, List.map_nil, cond_true, cond_false, aop, Zv, Zq, Zp, ev, sput, Zt, Zz, Yb, unK, Zd, Zw, Nat.reduceBEq, Nat.reduceAdd, Int.reduceBEq, Int.reduceBNe, Int.reduceLT, Zu, Ya, tup, tyf]
            refine hB [(0, u), (1, v), (4, .slice none 0 0), (5, .slice (some ⟨h.length, 0, none⟩) n n), (7, .pointer (some ⟨p7, 0, none⟩)), (8, .pointer (some ⟨p7 + 1, 0, none⟩)), (9, .pointer (some ⟨p7 + 2, 0, none⟩)), (10, Zx (tkS L k : Nat)), (11, Zx (c : Nat)), (20, .bool false), (30, v), (31, Zx n), (32, Zx (t : Nat))] _ _ ?_ (by simp (maxSteps := 2000000) only [↓Za, ↓Zo, ↓Zr, ↓Ze, ↓Zi, ↓Zs, ↓Zf, ↓Zl, ↓Zg, ↓Zc, ↓Zb, ↓vdn, vup, Zh, Zk, Zm, Zn, Zj, List.map_cons, List.map_nil, cond_true, cond_false, aop, Zv, Zq, Zp, ev, sput, Zt, Zz, Yb, unK, Zd, Zw, Nat.reduceBEq, Nat.reduceAdd, Int.reduceBEq, Int.reduceBNe, Int.reduceLT, Zu, Ya, tup, tyf])
            clear hB
            try clear B
            refine Yd ?_
            simp (maxSteps := 2000000) only [s56, ↓Za, ↓Zo, ↓Zr, ↓Ze, ↓Zi, ↓Zs, ↓Zf, ↓Zl, ↓Zg, ↓Zc, ↓Zb, ↓vdn, vup, Zh, Zk, Zm, Zn, Zj, List.map_cons, List.map_nil, cond_true, cond_false, aop, Zv, Zq, Zp, ev, sput, Zt, Zz, Yb, unK, Zd, Zw, Nat.reduceBEq, Nat.reduceAdd, Int.reduceBEq, Int.reduceBNe, Int.reduceLT, Zu, Ya, tup, tyf, add1 (show t < 9223372036854775807 by omega)]
            exact hQ4 _ _ _ ⟨t + 1, ht', by omega, by simp (maxSteps := 2000000) only [↓Za, ↓Zo, ↓Zr, ↓Ze, ↓Zi, ↓Zs, ↓Zf, ↓Zl, ↓Zg, ↓Zc, ↓Zb, ↓vdn, vup, Zh, Zk, Zm, Zn, Zj, List.map_cons, List.map_nil, cond_true, cond_false, aop, Zv, Zq, Zp, ev, sput, Zt, Zz, Yb, unK, Zd, Zw, Nat.reduceBEq, Nat.reduceAdd, Int.reduceBEq, Int.reduceBNe, Int.reduceLT, Zu, Ya, tup, tyf, hst, optI], rfl⟩
    · obtain rfl : n = t := by omega
      refine Zy fun N24 hN24 => ?_
      simp (maxSteps := 2000000) only [s56, ↓Za, ↓Zo, ↓Zr, ↓Ze, ↓Zi, ↓Zs, ↓Zf, ↓Zl, ↓Zg, ↓Zc, ↓Zb, ↓vdn, vup, Zh, Zk, Zm, Zn, Zj, List.map_cons, List.map_nil, cond_true, cond_false, aop, Zv, Zq, Zp, ev, sput, Zt, Zz, Yb, unK, Zd, Zw, Nat.reduceBEq, Nat.reduceAdd, Int.reduceBEq, Int.reduceBNe, Int.reduceLT, Zu, Ya, tup, tyf, hin2]
      refine hN24 [(0, u), (1, v), (4, .slice none 0 0), (5, .slice (some ⟨h.length, 0, none⟩) n n), (7, .pointer (some ⟨p7, 0, none⟩)), (8, .pointer (some ⟨p7 + 1, 0, none⟩)), (9, .pointer (some ⟨p7 + 2, 0, none⟩)), (10, Zx (tkS L k : Nat)), (11, Zx (optI (Va val (tkS L k) n))), (20, .bool false), (30, v), (31, Zx n), (32, Zx (n : Nat)), (33, .bool false)] _ _ ?_ (by simp (maxSteps := 2000000) only [↓Za, ↓Zo, ↓Zr, ↓Ze, ↓Zi, ↓Zs, ↓Zf, ↓Zl, ↓Zg, ↓Zc, ↓Zb, ↓vdn, vup, Zh, Zk, Zm, Zn, Zj, List.map_cons, List.map_nil, cond_true, cond_false, aop, Zv, Zq, Zp, ev, sput, Zt, Zz, Yb, unK, Zd, Zw, Nat.reduceBEq, Nat.reduceAdd, Int.reduceBEq, Int.reduceBNe, Int.reduceLT, Zu, Ya, tup, tyf])
      clear hN24
      try clear N24
      refine Zy fun N25 hN25 => ?_
      simp (maxSteps := 2000000) only [s56, ↓Za, ↓Zo, ↓Zr, ↓Ze, ↓Zi, ↓Zs, ↓Zf, ↓Zl, ↓Zg, ↓Zc, ↓Zb, ↓vdn, vup, Zh, Zk, Zm, Zn, Zj, List.map_cons, List.map_nil, cond_true, cond_false, aop, Zv, Zq, Zp, ev, sput, Zt, Zz, Yb, unK, Zd, Zw, Nat.reduceBEq, Nat.reduceAdd, Int.reduceBEq, Int.reduceBNe, Int.reduceLT, Zu, Ya, tup, tyf]
      refine hQ4 _ _ _ (hQ3 _ _ _ ?_)
      simp (maxSteps := 2000000) only [s56, ↓Za, ↓Zo, ↓Zr, ↓Ze, ↓Zi, ↓Zs, ↓Zf, ↓Zl, ↓Zg, ↓Zc, ↓Zb, ↓vdn, vup, Zh, Zk, Zm, Zn, Zj, List.map_cons, List.map_nil, cond_true, cond_false, aop, Zv, Zq, Zp, ev, sput, Zt, Zz, Yb, unK, Zd, Zw, Nat.reduceBEq, Nat.reduceAdd, Int.reduceBEq, Int.reduceBNe, Int.reduceLT, Zu, Ya, tup, tyf, if_true]
      refine hS [(0, u), (1, v), (4, .slice none 0 0), (5, .slice (some ⟨h.length, 0, none⟩) n n), (7, .pointer (some ⟨p7, 0, none⟩)), (8, .pointer (some ⟨p7 + 1, 0, none⟩)), (9, .pointer (some ⟨p7 + 2, 0, none⟩)), (10, Zx (tkS L k : Nat)), (11, Zx (optI (Va val (tkS L k) n))), (20, .bool false), (33, .bool false)] _ _ ?_ (by simp (maxSteps := 2000000) only [↓Za, ↓Zo, ↓Zr, ↓Ze, ↓Zi, ↓Zs, ↓Zf, ↓Zl, ↓Zg, ↓Zc, ↓Zb, ↓vdn, vup, Zh, Zk, Zm, Zn, Zj, List.map_cons, List.map_nil, cond_true, cond_false, aop, Zv, Zq, Zp, ev, sput, Zt, Zz, Yb, unK, Zd, Zw, Nat.reduceBEq, Nat.reduceAdd, Int.reduceBEq, Int.reduceBNe, Int.reduceLT, Zu, Ya, tup, tyf])
      clear hS
      try clear S
      have hsrt : L.Pairwise fun a b => -(val a) * 16 + (a : Int) ≤ -(val b) * 16 + (b : Int) := by rw [hval]; exact hsL
      by_cases hkn : k = xs.length
      · have hnone : Va val (tkS L k) n = none := by rw [hkn, ← hxn]; exact pick_none (by omega) hpL hsrt
        have hm1 : optI (Va val (tkS L k) n) = -1 := by rw [hnone]; rfl
        rw [hm1]
        refine Ye fun C hC => ?_
        refine Zy fun N26 hN26 => ?_
        simp only [q56_16]
        refine Xd [(13, 1), (14, 1)] (by kernel_rfl) (by kernel_rfl) (by kernel_rfl) (by kernel_rfl) ?_
        simp (maxSteps := 2000000) only [s56, ↓Za, ↓Zo, ↓Zr, ↓Ze, ↓Zi, ↓Zs, ↓Zf, ↓Zl, ↓Zg, ↓Zc, ↓Zb, ↓vdn, vup, Zh, Zk, Zm, Zn, Zj, List.map_cons, List.map_nil, cond_true, cond_false, aop, Zv, Zq, Zp, ev, sput, Zt, Zz, Yb, unK, Zd, Zw, Nat.reduceBEq, Nat.reduceAdd, Int.reduceBEq, Int.reduceBNe, Int.reduceLT, Zu, Ya, tup, tyf]
        refine hN26 [(0, u), (1, v), (4, .slice none 0 0), (5, .slice (some ⟨h.length, 0, none⟩) n n), (7, .pointer (some ⟨p7, 0, none⟩)), (8, .pointer (some ⟨p7 + 1, 0, none⟩)), (9, .pointer (some ⟨p7 + 2, 0, none⟩)), (10, Zx (tkS L k : Nat)), (11, .int .i64 (-1)), (20, .bool false), (33, .bool false), (83, .bool true)] _ _ ?_ (by simp (maxSteps := 2000000) only [↓Za, ↓Zo, ↓Zr, ↓Ze, ↓Zi, ↓Zs, ↓Zf, ↓Zl, ↓Zg, ↓Zc, ↓Zb, ↓vdn, vup, Zh, Zk, Zm, Zn, Zj, List.map_cons, List.map_nil, cond_true, cond_false, aop, Zv, Zq, Zp, ev, sput, Zt, Zz, Yb, unK, Zd, Zw, Nat.reduceBEq, Nat.reduceAdd, Int.reduceBEq, Int.reduceBNe, Int.reduceLT, Zu, Ya, tup, tyf])
        clear hN26
        try clear N26
        refine Wc rfl ?_
        refine Yd ?_
        simp (maxSteps := 2000000) only [s56, ↓Za, ↓Zo, ↓Zr, ↓Ze, ↓Zi, ↓Zs, ↓Zf, ↓Zl, ↓Zg, ↓Zc, ↓Zb, ↓vdn, vup, Zh, Zk, Zm, Zn, Zj, List.map_cons, List.map_nil, cond_true, cond_false, aop, Zv, Zq, Zp, ev, sput, Zt, Zz, Yb, unK, Zd, Zw, Nat.reduceBEq, Nat.reduceAdd, Int.reduceBEq, Int.reduceBNe, Int.reduceLT, Zu, Ya, tup, tyf]
        refine hQ2 _ _ _ (hQ _ _ _ ?_)
        simp (maxSteps := 2000000) only [s56, ↓Za, ↓Zo, ↓Zr, ↓Ze, ↓Zi, ↓Zs, ↓Zf, ↓Zl, ↓Zg, ↓Zc, ↓Zb, ↓vdn, vup, Zh, Zk, Zm, Zn, Zj, List.map_cons, List.map_nil, cond_true, cond_false, aop, Zv, Zq, Zp, ev, sput, Zt, Zz, Yb, unK, Zd, Zw, Nat.reduceBEq, Nat.reduceAdd, Int.reduceBEq, Int.reduceBNe, Int.reduceLT, Zu, Ya, tup, tyf, if_true]
        exact fin k hp ⟨hpL, hsL, hk, hco, .inl hkn⟩ hEp f7 _ (by simp (maxSteps := 2000000) only [↓Za, ↓Zo, ↓Zr, ↓Ze, ↓Zi, ↓Zs, ↓Zf, ↓Zl, ↓Zg, ↓Zc, ↓Zb, ↓vdn, vup, Zh, Zk, Zm, Zn, Zj, List.map_cons, List.map_nil, cond_true, cond_false, aop, Zv, Zq, Zp, ev, sput, Zt, Zz, Yb, unK, Zd, Zw, Nat.reduceBEq, Nat.reduceAdd, Int.reduceBEq, Int.reduceBNe, Int.reduceLT, Zu, Ya, tup, tyf])
      have hk' : k < xs.length := by omega
      have hx := ltL k hk'
      have hsome := pick_some (by omega) hpL hsrt hk'
      obtain ⟨x, hxe⟩ : ∃ x, L.getD k 0 = x := ⟨_, rfl⟩
      rw [hxe] at hx hsome
      have hopt : optI (Va val (tkS L k) n) = (x : Int) := by rw [← hxn, hsome]; rfl
      rw [hopt]
      have hxy : x < ys.length := by omega
      obtain ⟨p, hpe⟩ : ∃ p, xs.getD x 0 = p := ⟨_, rfl⟩
      obtain ⟨q, hqe⟩ : ∃ p, ys.getD x 0 = p := ⟨_, rfl⟩
      have pa := rc.a x hx
      have qb := rc.b x hxy
      rw [hpe] at pa
      rw [hqe] at qb
      have pq : (p * q).natAbs ≤ 144 := by rw [Int.natAbs_mul]; exact Nat.mul_le_mul (show p.natAbs ≤ 12 by omega) (show q.natAbs ≤ 12 by omega)
      have m1 : mulV .i64 p q = p * q := mulV_id (by omega) (by omega)
      have fv : Xa prog 68 [Zx (p * q), Zx 12] hp (qV (gVv xs ys x)) := by
        have := Vh (h := hp) (a := p * q) (b := 12) (by decide) (by omega) (by decide)
        rw [gVv, hpe, hqe]; exact this
      have rV : Rp 12 (p * q) (gVv xs ys x) := by rw [gVv, hpe, hqe]; exact Rp.of_frac (N := 12) (by decide) (p * q)
      obtain ⟨y, y0, y1, rQ, rK⟩ := gK_rp rc hpL hk hco
      have sb := gSum_le rc hpL k hk
      have nK : (27720 * (12 - gSum xs L k)).natAbs ≤ 332640 := by omega
      have lK := Nat.le_trans rK.le nK
      have dK := Nat.le_trans rK.den_le (show 12 * y ≤ 332640 by omega)
      have lV := Nat.le_trans rV.le pq
      have dV := rV.den_le
      have lc : Xa prog 23 [qV (gK xs ys L k), qV (gVv xs ys x)] hp (.bool (decide (gK xs ys L k < gVv xs ys x))) := rless_call (by
        rw [Int.natAbs_mul, Int.natAbs_natCast]; exact Nat.lt_of_le_of_lt (Nat.mul_le_mul lK dV) (by decide)) (by
        rw [Int.natAbs_mul, Int.natAbs_natCast]; exact Nat.lt_of_le_of_lt (Nat.mul_le_mul lV dK) (by decide))
      have x0 : ¬ ((x : Nat) : Int) < 0 := by omega
      refine Ye fun C hC => ?_
      refine Zy fun N27 hN27 => ?_
      simp only [q56_16]
      refine Xd [(13, 1), (14, 1)] (by kernel_rfl) (by kernel_rfl) (by kernel_rfl) (by kernel_rfl) ?_
      refine Xn 14 rfl fun N1 hN1 => ?_
      simp (maxSteps := 2000000) only [s56, ↓Za, ↓Zo, ↓Zr, ↓Ze, ↓Zi, ↓Zs, ↓Zf, ↓Zl, ↓Zg, ↓Zc, ↓Zb, ↓vdn, vup, Zh, Zk, Zm, Zn, Zj, List.map_cons, List.map_nil, cond_true, cond_false, aop, Zv, Zq, Zp, ev, sput, Zt, Zz, Yb, unK, Zd, Zw, Nat.reduceBEq, Nat.reduceAdd, Int.reduceBEq, Int.reduceBNe, Int.reduceLT, Zu, Ya, tup, tyf, List.take_succ_cons, List.take_zero, x0, Wz f7, hup.idx Xu Xp hx, hup.load Xl hx, hvp.idx Xu Xp hxy, hvp.load Xl hxy, hpe, hqe, m1, Yr, List.nil_append, List.append_nil, List.toList_toArray, List.cons_append]
      refine ⟨_, _, fv, rfl, ?_⟩
      refine hN1 _ _ ?_
      clear hN1 N1
      refine Xn 1 rfl fun N1 hN1 => ?_
      simp (maxSteps := 2000000) only [s56, ↓Za, ↓Zo, ↓Zr, ↓Ze, ↓Zi, ↓Zs, ↓Zf, ↓Zl, ↓Zg, ↓Zc, ↓Zb, ↓vdn, vup, Zh, Zk, Zm, Zn, Zj, List.map_cons, List.map_nil, cond_true, cond_false, aop, Zv, Zq, Zp, ev, sput, Zt, Zz, Yb, unK, Zd, Zw, Nat.reduceBEq, Nat.reduceAdd, Int.reduceBEq, Int.reduceBNe, Int.reduceLT, Zu, Ya, tup, tyf, List.drop_succ_cons, List.drop_zero, List.take_succ_cons, List.take_zero, Yr, List.nil_append, List.append_nil, List.toList_toArray, List.cons_append]
      refine ⟨_, _, lc, rfl, ?_⟩
      refine hN1 _ _ ?_
      clear hN1 N1
      simp (maxSteps := 2000000) only [s56, ↓Za, ↓Zo, ↓Zr, ↓Ze, ↓Zi, ↓Zs, ↓Zf, ↓Zl, ↓Zg, ↓Zc, ↓Zb, ↓vdn, vup, Zh, Zk, Zm, Zn, Zj, List.map_cons, List.map_nil, cond_true, cond_false, aop, Zv, Zq, Zp, ev, sput, Zt, Zz, Yb, unK, Zd, Zw, Nat.reduceBEq, Nat.reduceAdd, Int.reduceBEq, Int.reduceBNe, Int.reduceLT, Zu, Ya, tup, tyf, List.drop_succ_cons, List.drop_zero]
      refine hN27 [(0, u), (1, v), (4, .slice none 0 0), (5, .slice (some ⟨h.length, 0, none⟩) n n), (7, .pointer (some ⟨p7, 0, none⟩)), (8, .pointer (some ⟨p7 + 1, 0, none⟩)), (9, .pointer (some ⟨p7 + 2, 0, none⟩)), (10, Zx (tkS L k : Nat)), (11, Zx (x : Nat)), (20, .bool false), (33, .bool false), (83, .bool (!decide (gK xs ys L k < gVv xs ys x)))] _ _ ?_ (by simp (maxSteps := 2000000) only [↓Za, ↓Zo, ↓Zr, ↓Ze, ↓Zi, ↓Zs, ↓Zf, ↓Zl, ↓Zg, ↓Zc, ↓Zb, ↓vdn, vup, Zh, Zk, Zm, Zn, Zj, List.map_cons, List.map_nil, cond_true, cond_false, aop, Zv, Zq, Zp, ev, sput, Zt, Zz, Yb, unK, Zd, Zw, Nat.reduceBEq, Nat.reduceAdd, Int.reduceBEq, Int.reduceBNe, Int.reduceLT, Zu, Ya, tup, tyf])
      clear hN27
      try clear N27
      by_cases hcd : gK xs ys L k < gVv xs ys x
      case neg =>
        rw [decide_eq_false hcd]
        refine Wc rfl ?_
        refine Yd ?_
        simp (maxSteps := 2000000) only [s56, ↓Za, ↓Zo, ↓Zr, ↓Ze, ↓Zi, ↓Zs, ↓Zf, ↓Zl, ↓Zg, ↓Zc, ↓Zb, ↓vdn, vup, Zh, Zk, Zm, Zn, Zj, List.map_cons, List.map_nil, cond_true, cond_false, aop, Zv, Zq, Zp, ev, sput, Zt, Zz, Yb, unK, Zd, Zw, Nat.reduceBEq, Nat.reduceAdd, Int.reduceBEq, Int.reduceBNe, Int.reduceLT, Zu, Ya, tup, tyf]
        refine hQ2 _ _ _ (hQ _ _ _ ?_)
        simp (maxSteps := 2000000) only [s56, ↓Za, ↓Zo, ↓Zr, ↓Ze, ↓Zi, ↓Zs, ↓Zf, ↓Zl, ↓Zg, ↓Zc, ↓Zb, ↓vdn, vup, Zh, Zk, Zm, Zn, Zj, List.map_cons, List.map_nil, cond_true, cond_false, aop, Zv, Zq, Zp, ev, sput, Zt, Zz, Yb, unK, Zd, Zw, Nat.reduceBEq, Nat.reduceAdd, Int.reduceBEq, Int.reduceBNe, Int.reduceLT, Zu, Ya, tup, tyf, if_true]
        exact fin k hp ⟨hpL, hsL, hk, hco, .inr (by rw [hxe]; exact hcd)⟩ hEp f7 _ (by simp (maxSteps := 2000000) only [↓Za, ↓Zo, ↓Zr, ↓Ze, ↓Zi, ↓Zs, ↓Zf, ↓Zl, ↓Zg, ↓Zc, ↓Zb, ↓vdn, vup, Zh, Zk, Zm, Zn, Zj, List.map_cons, List.map_nil, cond_true, cond_false, aop, Zv, Zq, Zp, ev, sput, Zt, Zz, Yb, unK, Zd, Zw, Nat.reduceBEq, Nat.reduceAdd, Int.reduceBEq, Int.reduceBNe, Int.reduceLT, Zu, Ya, tup, tyf])
      rw [decide_eq_true hcd]
      refine Xs rfl ?_
      refine Yd ?_
      simp (maxSteps := 2000000) only [s56, ↓Za, ↓Zo, ↓Zr, ↓Ze, ↓Zi, ↓Zs, ↓Zf, ↓Zl, ↓Zg, ↓Zc, ↓Zb, ↓vdn, vup, Zh, Zk, Zm, Zn, Zj, List.map_cons, List.map_nil, cond_true, cond_false, aop, Zv, Zq, Zp, ev, sput, Zt, Zz, Yb, unK, Zd, Zw, Nat.reduceBEq, Nat.reduceAdd, Int.reduceBEq, Int.reduceBNe, Int.reduceLT, Zu, Ya, tup, tyf]
      refine hC [(0, u), (1, v), (4, .slice none 0 0), (5, .slice (some ⟨h.length, 0, none⟩) n n), (7, .pointer (some ⟨p7, 0, none⟩)), (8, .pointer (some ⟨p7 + 1, 0, none⟩)), (9, .pointer (some ⟨p7 + 2, 0, none⟩)), (10, Zx (tkS L k : Nat)), (11, Zx (x : Nat)), (20, .bool false), (33, .bool false)] _ _ ?_ (by simp (maxSteps := 2000000) only [↓Za, ↓Zo, ↓Zr, ↓Ze, ↓Zi, ↓Zs, ↓Zf, ↓Zl, ↓Zg, ↓Zc, ↓Zb, ↓vdn, vup, Zh, Zk, Zm, Zn, Zj, List.map_cons, List.map_nil, cond_true, cond_false, aop, Zv, Zq, Zp, ev, sput, Zt, Zz, Yb, unK, Zd, Zw, Nat.reduceBEq, Nat.reduceAdd, Int.reduceBEq, Int.reduceBNe, Int.reduceLT, Zu, Ya, tup, tyf])
      clear hC
      try clear C
      have hco' : ∀ j, j < k + 1 → gK xs ys L j < gVv xs ys (L.getD j 0) := fun j hj => by
        by_cases hjk : j = k
        · subst hjk; rw [hxe]; exact hcd
        · exact hco j (by omega)
      obtain ⟨y', y0', y1', rQ', rK'⟩ := gK_rp rc hpL hk' hco'
      have sb' := gSum_le rc hpL (k + 1) hk'
      have q0' := gQ_pos rc hpL (k + 1) hk' hco'
      have rP := gP_rp xs L k
      have rP' := gP_rp xs L (k + 1)
      have stP := gP_step xs L k
      have stQ := gQ_step ys L k
      rw [hxe] at stP stQ
      obtain ⟨b1, b2, b3⟩ := gVb_pos rc hpL hx
      obtain ⟨z, rVb⟩ := rp_of (by decide) b3
      have zb := rVb.bound (C := 1) (Rat.le_trans (by decide) (Rat.le_of_lt b1)) b2
      have nA : Rat.divInt (-p) 12 = (((-1 : Int)) : Rat) * gVa xs x := by
        rw [gVa, hpe, Rat.divInt_eq_div, Rat.divInt_eq_div, Rat.div_def, Rat.div_def, Rat.intCast_neg, show (((-1 : Int)) : Rat) = -1 from rfl]; grind
      have nB : Rat.divInt (-1) q = (((-1 : Int)) : Rat) * gVb ys x := by
        rw [gVb, hqe, Rat.divInt_eq_div, Rat.divInt_eq_div, Rat.div_def, Rat.div_def, show (((-1 : Int)) : Rat) = -1 from rfl, show (((1 : Int)) : Rat) = 1 from rfl]; grind
      have va : ∀ h', Xa prog 68 [Zx (-p), Zx 12] h' (qV ((((-1 : Int)) : Rat) * gVa xs x)) := fun h' => by
        rw [← nA]; exact Vh (h := h') (a := -p) (b := 12) (by decide) (by omega) (by decide)
      have vb : ∀ h', Xa prog 68 [Zx (-1), Zx q] h' (qV ((((-1 : Int)) : Rat) * gVb ys x)) := fun h' => by
        rw [← nB]; exact Vh (h := h') (a := -1) (b := q) (by omega) (by decide) (by omega)
      have m1r : Rp 1 (-1) (((-1 : Int)) : Rat) := ⟨by decide, by decide +kernel⟩
      have rVa : Rp 12 p (gVa xs x) := by rw [gVa, hpe]; exact Rp.of_frac (N := 12) (by decide) p
      have rA := m1r.mul rVa
      have rB := m1r.mul rVb
      have lA := Nat.le_trans rA.le (show (-1 * p).natAbs ≤ 12 by omega)
      have dA := Nat.le_trans rA.den_le (show 1 * 12 ≤ 12 by omega)
      have lB := Nat.le_trans rB.le (show (-1 * z).natAbs ≤ 27720 by omega)
      have dB := Nat.le_trans rB.den_le (show 1 * 27720 ≤ 27720 by omega)
      have lP := Nat.le_trans rP.le (show (12 - gSum xs L k).natAbs ≤ 12 by omega)
      have dP := rP.den_le
      have lP' := Nat.le_trans rP'.le (show (12 - gSum xs L (k + 1)).natAbs ≤ 12 by omega)
      have dP' := rP'.den_le
      have lQ := Nat.le_trans rQ.le (show ((y : Nat) : Int).natAbs ≤ 27720 by omega)
      have dQ := rQ.den_le
      have lQ' := Nat.le_trans rQ'.le (show ((y' : Nat) : Int).natAbs ≤ 27720 by omega)
      have dQ' := rQ'.den_le
      have plP : ∀ h', Xa prog 67 [qV (gP xs L k), qV ((((-1 : Int)) : Rat) * gVa xs x)] h' (qV (gP xs L (k + 1))) := fun h' => by
        rw [← stP]
        exact rplus_call (by
          rw [Int.natAbs_mul, Int.natAbs_mul, Int.natAbs_natCast, Int.natAbs_natCast]
          exact Nat.lt_of_le_of_lt (Nat.add_le_add (Nat.mul_le_mul lP dA) (Nat.mul_le_mul lA dP)) (by decide)) (Nat.lt_of_le_of_lt (Nat.mul_le_mul dP dA) (by decide))
      have plQ : ∀ h', Xa prog 67 [qV (gQ ys L k), qV ((((-1 : Int)) : Rat) * gVb ys x)] h' (qV (gQ ys L (k + 1))) := fun h' => by
        rw [← stQ]
        exact rplus_call (by
          rw [Int.natAbs_mul, Int.natAbs_mul, Int.natAbs_natCast, Int.natAbs_natCast]
          exact Nat.lt_of_le_of_lt (Nat.add_le_add (Nat.mul_le_mul lQ dB) (Nat.mul_le_mul lB dQ)) (by decide)) (Nat.lt_of_le_of_lt (Nat.mul_le_mul dQ dB) (by decide))
      have ovK : ∀ h', Xa prog 96 [qV (gP xs L (k + 1)), qV (gQ ys L (k + 1))] h' (qV (gK xs ys L (k + 1))) := fun h' =>
        rover_call (fun hc => by rw [hc] at q0'; exact absurd q0' (by decide)) (by
          rw [Int.natAbs_mul, Int.natAbs_natCast]; exact Nat.lt_of_le_of_lt (Nat.mul_le_mul lP' dQ') (by decide)) (by
          rw [Int.natAbs_mul, Int.natAbs_natCast]; exact Nat.lt_of_le_of_lt (Nat.mul_le_mul dP' lQ') (by decide))
      obtain ⟨P, hP⟩ : ∃ P, gP xs L k = P := ⟨_, rfl⟩
      obtain ⟨P', hP'⟩ : ∃ P, gP xs L (k + 1) = P := ⟨_, rfl⟩
      obtain ⟨R, hR⟩ : ∃ P, gQ ys L k = P := ⟨_, rfl⟩
      obtain ⟨R', hR'⟩ : ∃ P, gQ ys L (k + 1) = P := ⟨_, rfl⟩
      obtain ⟨K', hK'⟩ : ∃ P, gK xs ys L (k + 1) = P := ⟨_, rfl⟩
      rw [hP, hP'] at plP
      rw [hR, hR'] at plQ
      rw [hP', hR', hK'] at ovK
      rw [hP] at f8
      rw [hR] at f9
      obtain ⟨va1, hva1⟩ : ∃ P, (((-1 : Int)) : Rat) * gVa xs x = P := ⟨_, rfl⟩
      obtain ⟨vb1, hvb1⟩ : ∃ P, (((-1 : Int)) : Rat) * gVb ys x = P := ⟨_, rfl⟩
      rw [hva1] at va plP
      rw [hvb1] at vb plQ
      have ng : subV .i64 0 p = -p := by rw [subV_id (by omega) (by omega)]; omega
      -- one more taken
      have hsh : shlV .i64 1 (x : Nat) = ((2 ^ x : Nat) : Int) := by
        have := shlV_nat (a := 1) (y := x) (by rw [Nat.one_mul]; exact Nat.lt_of_lt_of_le (Nat.pow_lt_pow_right (by decide) (show x < 6 by omega)) (by decide)) (by omega)
        rw [Nat.one_mul] at this; exact this
      have hor : bitsV .or .i64 ((tkS L k : Nat) : Int) ((2 ^ x : Nat) : Int) = ((tkS L (k + 1) : Nat) : Int) := by
        rw [bitsV_or hts (Nat.lt_of_lt_of_le (Nat.pow_lt_pow_right (by decide) (show x < 6 by omega)) (by decide)), tkS, hxe]
      refine Zy fun N28 hN28 => ?_
      simp (maxSteps := 2000000) only [s56, ↓Za, ↓Zo, ↓Zr, ↓Ze, ↓Zi, ↓Zs, ↓Zf, ↓Zl, ↓Zg, ↓Zc, ↓Zb, ↓vdn, vup, Zh, Zk, Zm, Zn, Zj, List.map_cons, List.map_nil, cond_true, cond_false, aop, Zv, Zq, Zp, ev, sput, Zt, Zz, Yb, unK, Zd, Zw, Nat.reduceBEq, Nat.reduceAdd, Int.reduceBEq, Int.reduceBNe, Int.reduceLT, Zu, Ya, tup, tyf, Int.natCast_nonneg, hsh, hor]
      refine hN28 [(0, u), (1, v), (4, .slice none 0 0), (5, .slice (some ⟨h.length, 0, none⟩) n n), (7, .pointer (some ⟨p7, 0, none⟩)), (8, .pointer (some ⟨p7 + 1, 0, none⟩)), (9, .pointer (some ⟨p7 + 2, 0, none⟩)), (10, Zx (tkS L (k + 1) : Nat)), (11, Zx (x : Nat)), (20, .bool false), (33, .bool false)] _ _ ?_ (by simp (maxSteps := 2000000) only [↓Za, ↓Zo, ↓Zr, ↓Ze, ↓Zi, ↓Zs, ↓Zf, ↓Zl, ↓Zg, ↓Zc, ↓Zb, ↓vdn, vup, Zh, Zk, Zm, Zn, Zj, List.map_cons, List.map_nil, cond_true, cond_false, aop, Zv, Zq, Zp, ev, sput, Zt, Zz, Yb, unK, Zd, Zw, Nat.reduceBEq, Nat.reduceAdd, Int.reduceBEq, Int.reduceBNe, Int.reduceLT, Zu, Ya, tup, tyf])
      clear hN28
      try clear N28
      have k2 := hup
      obtain ⟨h8, hh8⟩ : ∃ h8, h8 = hp.set (p7 + 1) (fC P'.num P'.den) := ⟨_, rfl⟩
      have hE8 : Ext (fun _ => False) G h8 := by rw [hh8]; exact hEp.set_ge (by omega) _
      have j7 : h8[p7]? = some (fC (gK xs ys L k).num (gK xs ys L k).den) := by rw [hh8, List.getElem?_set_ne (by omega)]; exact f7
      have j8 : h8[p7 + 1]? = some (fC P'.num P'.den) := by rw [hh8]; exact Xq (Yp f8) _
      have j9 : h8[p7 + 2]? = some (fC R.num R.den) := by rw [hh8, List.getElem?_set_ne (by omega)]; exact f9
      have jvp := Xv hvG hE8
      have jl : h8.length = hp.length := by rw [hh8, List.length_set]
      refine Zy fun N29 hN29 => ?_
      simp only [q56_18]
      refine Xd [(6, 1), (7, 1)] (by kernel_rfl) (by kernel_rfl) (by kernel_rfl) (by kernel_rfl) ?_
      refine Xn 7 rfl fun N1 hN1 => ?_
      simp (maxSteps := 2000000) only [s56, ↓Za, ↓Zo, ↓Zr, ↓Ze, ↓Zi, ↓Zs, ↓Zf, ↓Zl, ↓Zg, ↓Zc, ↓Zb, ↓vdn, vup, Zh, Zk, Zm, Zn, Zj, List.map_cons, List.map_nil, cond_true, cond_false, aop, Zv, Zq, Zp, ev, sput, Zt, Zz, Yb, unK, Zd, Zw, Nat.reduceBEq, Nat.reduceAdd, Int.reduceBEq, Int.reduceBNe, Int.reduceLT, Zu, Ya, tup, tyf, List.take_succ_cons, List.take_zero, Wz f8, hup.idx Xu Xp hx, hup.load Xl hx, hpe, ng, Yr, List.nil_append, List.append_nil, List.toList_toArray, List.cons_append]
      refine ⟨_, _, va hp, rfl, ?_⟩
      refine hN1 _ _ ?_
      clear hN1 N1
      refine Xn 1 rfl fun N1 hN1 => ?_
      simp (maxSteps := 2000000) only [s56, ↓Za, ↓Zo, ↓Zr, ↓Ze, ↓Zi, ↓Zs, ↓Zf, ↓Zl, ↓Zg, ↓Zc, ↓Zb, ↓vdn, vup, Zh, Zk, Zm, Zn, Zj, List.map_cons, List.map_nil, cond_true, cond_false, aop, Zv, Zq, Zp, ev, sput, Zt, Zz, Yb, unK, Zd, Zw, Nat.reduceBEq, Nat.reduceAdd, Int.reduceBEq, Int.reduceBNe, Int.reduceLT, Zu, Ya, tup, tyf, List.drop_succ_cons, List.drop_zero, List.take_succ_cons, List.take_zero, Yr, List.nil_append, List.append_nil, List.toList_toArray, List.cons_append]
      refine ⟨_, _, plP hp, rfl, ?_⟩
      refine hN1 _ _ ?_
      clear hN1 N1
      simp (maxSteps := 2000000) only [s56, ↓Za, ↓Zo, ↓Zr, ↓Ze, ↓Zi, ↓Zs, ↓Zf, ↓Zl, ↓Zg, ↓Zc, ↓Zb, ↓vdn, vup, Zh, Zk, Zm, Zn, Zj, List.map_cons, List.map_nil, cond_true, cond_false, aop, Zv, Zq, Zp, ev, sput, Zt, Zz, Yb, unK, Zd, Zw, Nat.reduceBEq, Nat.reduceAdd, Int.reduceBEq, Int.reduceBNe, Int.reduceLT, Zu, Ya, tup, tyf, List.drop_succ_cons, List.drop_zero, qV, frV, Wb f8 rfl]
      rw [← hh8]
      refine hN29 [(0, u), (1, v), (4, .slice none 0 0), (5, .slice (some ⟨h.length, 0, none⟩) n n), (7, .pointer (some ⟨p7, 0, none⟩)), (8, .pointer (some ⟨p7 + 1, 0, none⟩)), (9, .pointer (some ⟨p7 + 2, 0, none⟩)), (10, Zx (tkS L (k + 1) : Nat)), (11, Zx (x : Nat)), (20, .bool false), (33, .bool false)] _ _ ?_ (by simp (maxSteps := 2000000) only [↓Za, ↓Zo, ↓Zr, ↓Ze, ↓Zi, ↓Zs, ↓Zf, ↓Zl, ↓Zg, ↓Zc, ↓Zb, ↓vdn, vup, Zh, Zk, Zm, Zn, Zj, List.map_cons, List.map_nil, cond_true, cond_false, aop, Zv, Zq, Zp, ev, sput, Zt, Zz, Yb, unK, Zd, Zw, Nat.reduceBEq, Nat.reduceAdd, Int.reduceBEq, Int.reduceBNe, Int.reduceLT, Zu, Ya, tup, tyf])
      clear hN29
      try clear N29
      obtain ⟨h9, hh9⟩ : ∃ h9, h9 = h8.set (p7 + 2) (fC R'.num R'.den) := ⟨_, rfl⟩
      have hE9 : Ext (fun _ => False) G h9 := by rw [hh9]; exact hE8.set_ge (by omega) _
      have i7 : h9[p7]? = some (fC (gK xs ys L k).num (gK xs ys L k).den) := by rw [hh9, List.getElem?_set_ne (by omega)]; exact j7
      have i8 : h9[p7 + 1]? = some (fC P'.num P'.den) := by rw [hh9, List.getElem?_set_ne (by omega)]; exact j8
      have i9 : h9[p7 + 2]? = some (fC R'.num R'.den) := by rw [hh9]; exact Xq (Yp j9) _
      have il : h9.length = hp.length := by rw [hh9, List.length_set, jl]
      refine Zy fun N30 hN30 => ?_
      simp only [q56_19]
      refine Xd [(5, 1), (6, 1)] (by kernel_rfl) (by kernel_rfl) (by kernel_rfl) (by kernel_rfl) ?_
      refine Xn 6 rfl fun N1 hN1 => ?_
      simp (maxSteps := 2000000) only [s56, ↓Za, ↓Zo, ↓Zr, ↓Ze, ↓Zi, ↓Zs, ↓Zf, ↓Zl, ↓Zg, ↓Zc, ↓Zb, ↓vdn, vup, Zh, Zk, Zm, Zn, Zj, List.map_cons, List.map_nil, cond_true, cond_false, aop, Zv, Zq, Zp, ev, sput, Zt, Zz, Yb, unK, Zd, Zw, Nat.reduceBEq, Nat.reduceAdd, Int.reduceBEq, Int.reduceBNe, Int.reduceLT, Zu, Ya, tup, tyf, List.take_succ_cons, List.take_zero, Wz j9, jvp.idx Xu Xp hxy, jvp.load Xl hxy, hqe, Yr, List.nil_append, List.append_nil, List.toList_toArray, List.cons_append]
      refine ⟨_, _, vb h8, rfl, ?_⟩
      refine hN1 _ _ ?_
      clear hN1 N1
      refine Xn 1 rfl fun N1 hN1 => ?_
      simp (maxSteps := 2000000) only [s56, ↓Za, ↓Zo, ↓Zr, ↓Ze, ↓Zi, ↓Zs, ↓Zf, ↓Zl, ↓Zg, ↓Zc, ↓Zb, ↓vdn, vup, Zh, Zk, Zm, Zn, Zj, List.map_cons, List.map_nil, cond_true, cond_false, aop, Zv, Zq, Zp, ev, sput, Zt, Zz, Yb, unK, Zd, Zw, Nat.reduceBEq, Nat.reduceAdd, Int.reduceBEq, Int.reduceBNe, Int.reduceLT, Zu, Ya, tup, tyf, List.drop_succ_cons, List.drop_zero, List.take_succ_cons, List.take_zero, Yr, List.nil_append, List.append_nil, List.toList_toArray, List.cons_append]
      refine ⟨_, _, plQ h8, rfl, ?_⟩
      refine hN1 _ _ ?_
      clear hN1 N1
      simp (maxSteps := 2000000) only [s56, ↓Za, ↓Zo, ↓Zr, ↓Ze, ↓Zi, ↓Zs, ↓Zf, ↓Zl, ↓Zg, ↓Zc, ↓Zb, ↓vdn, vup, Zh, Zk, Zm, Zn, Zj, List.map_cons, List.map_nil, cond_true, cond_false, aop, Zv, Zq, Zp, ev, sput, Zt, Zz, Yb, unK, Zd, Zw, Nat.reduceBEq, Nat.reduceAdd, Int.reduceBEq, Int.reduceBNe, Int.reduceLT, Zu, Ya, tup, tyf, List.drop_succ_cons, List.drop_zero, qV, frV, Wb j9 rfl]
      rw [← hh9]
      refine hN30 [(0, u), (1, v), (4, .slice none 0 0), (5, .slice (some ⟨h.length, 0, none⟩) n n), (7, .pointer (some ⟨p7, 0, none⟩)), (8, .pointer (some ⟨p7 + 1, 0, none⟩)), (9, .pointer (some ⟨p7 + 2, 0, none⟩)), (10, Zx (tkS L (k + 1) : Nat)), (11, Zx (x : Nat)), (20, .bool false), (33, .bool false)] _ _ ?_ (by simp (maxSteps := 2000000) only [↓Za, ↓Zo, ↓Zr, ↓Ze, ↓Zi, ↓Zs, ↓Zf, ↓Zl, ↓Zg, ↓Zc, ↓Zb, ↓vdn, vup, Zh, Zk, Zm, Zn, Zj, List.map_cons, List.map_nil, cond_true, cond_false, aop, Zv, Zq, Zp, ev, sput, Zt, Zz, Yb, unK, Zd, Zw, Nat.reduceBEq, Nat.reduceAdd, Int.reduceBEq, Int.reduceBNe, Int.reduceLT, Zu, Ya, tup, tyf])
      clear hN30
      try clear N30
      obtain ⟨h10, hh10⟩ : ∃ h10, h10 = h9.set p7 (fC K'.num K'.den) := ⟨_, rfl⟩
      have hE10 : Ext (fun _ => False) G h10 := by rw [hh10]; exact hE9.set_ge (by omega) _
      refine Yd ?_
      simp (maxSteps := 2000000) only [s56, ↓Za, ↓Zo, ↓Zr, ↓Ze, ↓Zi, ↓Zs, ↓Zf, ↓Zl, ↓Zg, ↓Zc, ↓Zb, ↓vdn, vup, Zh, Zk, Zm, Zn, Zj, List.map_cons, List.map_nil, cond_true, cond_false, aop, Zv, Zq, Zp, ev, sput, Zt, Zz, Yb, unK, Zd, Zw, Nat.reduceBEq, Nat.reduceAdd, Int.reduceBEq, Int.reduceBNe, Int.reduceLT, Zu, Ya, tup, tyf, Yr, List.nil_append, List.append_nil, List.toList_toArray, List.cons_append, Wz i8, Wz i9]
      refine (ovK h9).mono ?_
      rintro _ h9 ⟨rfl, rfl⟩
      simp (maxSteps := 2000000) only [s56, ↓Za, ↓Zo, ↓Zr, ↓Ze, ↓Zi, ↓Zs, ↓Zf, ↓Zl, ↓Zg, ↓Zc, ↓Zb, ↓vdn, vup, Zh, Zk, Zm, Zn, Zj, List.map_cons, List.map_nil, cond_true, cond_false, aop, Zv, Zq, Zp, ev, sput, Zt, Zz, Yb, unK, Zd, Zw, Nat.reduceBEq, Nat.reduceAdd, Int.reduceBEq, Int.reduceBNe, Int.reduceLT, Zu, Ya, tup, tyf, qV, frV, Wb i7 rfl]
      rw [← hh10]
      refine hQ2 _ _ _ ⟨(k + 1, h10), ⟨hk', hco', hE10, ?_, ?_, ?_, ?_⟩, by simp only; omega, by simp (maxSteps := 2000000) only [↓Za, ↓Zo, ↓Zr, ↓Ze, ↓Zi, ↓Zs, ↓Zf, ↓Zl, ↓Zg, ↓Zc, ↓Zb, ↓vdn, vup, Zh, Zk, Zm, Zn, Zj, List.map_cons, List.map_nil, cond_true, cond_false, aop, Zv, Zq, Zp, ev, sput, Zt, Zz, Yb, unK, Zd, Zw, Nat.reduceBEq, Nat.reduceAdd, Int.reduceBEq, Int.reduceBNe, Int.reduceLT, Zu, Ya, tup, tyf], rfl⟩
      · simp only; rw [hh10, List.length_set]; omega
      · simp only; rw [hK', hh10]; exact Xq (Yp i7) _
      · simp only; rw [hP', hh10, List.getElem?_set_ne (by omega)]; exact i8
      · simp only; rw [hR', hh10, List.getElem?_set_ne (by omega)]; exact i9
end Go.Proofs.Try.Am

namespace Go.Proofs.Try.Am
open Go.Am Bq
set_option maxRecDepth 100000
set_option maxHeartbeats 1000000

/-- A row's fractions. -/
def rowC (T : Wu) (k i : Nat) : List (Int × Int) := (List.range (k + 1)).map fun c => ofQ (T i c)
theorem rowC_len (T : Wu) (k i : Nat) : (rowC T k i).length = k + 1 := by simp [rowC]
theorem rowC_get (T : Wu) {k i c : Nat} (hc : c ≤ k) : (rowC T k i).getD c (0, 0) = ofQ (T i c) := by
  simp [rowC, List.getD, show c < k + 1 by omega]
def upd (T : Wu) (i c : Nat) (x : Rat) : Wu := fun a d => if a = i ∧ d = c then x else T a d
theorem rowC_upd (T : Wu) {k i c : Nat} (hc : c ≤ k) (x : Rat) : (rowC T k i).set c (ofQ x) = rowC (upd T i c x) k i := by
  apply List.ext_getElem?
  intro d
  rw [List.getElem?_set, rowC_len]
  by_cases h : c = d
  · subst h
    rw [if_pos rfl, if_pos (by omega)]
    simp [rowC, show c < k + 1 by omega, upd]
  · rw [if_neg h]
    simp only [rowC, List.getElem?_map]
    by_cases hd : d < k + 1
    · simp [hd, upd, Ne.symm h]
    · rw [List.getElem?_eq_none (by simp; omega)]; rfl
theorem rowC_congr {T T' : Wu} {k i : Nat} (h : ∀ c, c ≤ k → T i c = T' i c) : rowC T k i = rowC T' k i :=
  List.map_congr_left fun c hc => by rw [h c (by have := List.mem_range.1 hc; omega)]
theorem rowC_other (T : Wu) {k i i' c : Nat} (hi : i' ≠ i) (x : Rat) : rowC (upd T i c x) k i' = rowC T k i' := rowC_congr fun d _ => by simp [upd, hi]

/-- Equations: the slice's block, the rows' blocks. -/
structure Mat (h : Yc) (B m k : Nat) (w : Nat → Value) (bk : Nat → Nat) (T : Wu) : Prop where
  outer : ∃ us, h[B]? = some (.cells ((List.range m).map w ++ us) 47 false)
  row : ∀ i, i < m → ∃ c xs, w i = .slice (some ⟨bk i, 0, some 0⟩) (k + 1) c ∧ k + 1 ≤ c ∧ h[bk i]? = some (.ints (Ym (rowC T k i) ++ xs) 26 false)
  inj : ∀ i j, i < m → j < m → bk i = bk j → i = j
  sep : ∀ i, i < m → bk i ≠ B
section
variable {h h' : Yc} {B m k C : Nat} {w : Nat → Value} {bk : Nat → Nat} {T T' : Wu}
theorem Mat.lt (M : Mat h B m k w bk T) {i : Nat} (hi : i < m) : bk i < h.length := by
  obtain ⟨c, xs, _, _, h3⟩ := M.row i hi; exact Yp h3
theorem Mat.blt (M : Mat h B m k w bk T) : B < h.length := by
  obtain ⟨us, h1⟩ := M.outer; exact Yp h1
theorem Mat.ext (M : Mat h B m k w bk T) (hE : Ext (fun _ => False) h h') : Mat h' B m k w bk T where
  outer := by
    obtain ⟨us, h1⟩ := M.outer
    exact ⟨us, (hE.2 _ (Yp h1) id).trans h1⟩
  row i hi := by
    obtain ⟨c, xs, h1, h2, h3⟩ := M.row i hi
    exact ⟨c, xs, h1, h2, (hE.2 _ (Yp h3) id).trans h3⟩
  inj := M.inj
  sep := M.sep
theorem Mat.congr (M : Mat h B m k w bk T) (hT : ∀ i c, i < m → c ≤ k → T i c = T' i c) : Mat h B m k w bk T' where
  outer := M.outer
  row i hi := by
    obtain ⟨c, xs, h1, h2, h3⟩ := M.row i hi
    exact ⟨c, xs, h1, h2, by rw [← rowC_congr fun c hc => hT i c hi hc]; exact h3⟩
  inj := M.inj
  sep := M.sep
theorem Mat.idx (i : Nat) (hi : i < m) {K : Value → Prop} : Xf prog 103 (.slice (some ⟨B, 0, some 0⟩) m C) (Zx (i : Nat)) K = K (.pointer (some ⟨B, i, none⟩)) := by
  simp only [Xf, el_103, esz_47, Int.natCast_nonneg, Int.toNat_natCast, Nat.mul_one, Nat.zero_add, true_and, Int.ofNat_lt.2 hi]
theorem Mat.loadRow (M : Mat h B m k w bk T) {i : Nat} (hi : i < m) {K : Value → Prop} : Xy prog h 47 (.pointer (some ⟨B, i, none⟩)) K = K (w i) := by
  obtain ⟨us, h1⟩ := M.outer
  refine loadC h1 shp_47 ?_
  rw [List.getElem?_append_left (by simpa using hi)]
  simp [hi]
theorem Mat.lenR (M : Mat h B m k w bk T) {i : Nat} (hi : i < m) {K : Value → Prop} : lenK (w i) K = K (Zx ((k + 1 : Nat) : Int)) := by
  obtain ⟨c, xs, h1, h2, h3⟩ := M.row i hi
  rw [h1]; rfl
theorem Mat.idxR (M : Mat h B m k w bk T) {i c : Nat} (hi : i < m) (hc : c ≤ k) {K : Value → Prop} : Xf prog 47 (w i) (Zx (c : Nat)) K = K (.pointer (some ⟨bk i, c * 2, none⟩)) := by
  obtain ⟨cc, xs, h1, h2, h3⟩ := M.row i hi
  rw [h1]
  simp only [Xf, el_47, Vm, Int.natCast_nonneg, Int.toNat_natCast, Nat.zero_add, true_and, show ((c : Nat) : Int) < ((k + 1 : Nat) : Int) by omega]
theorem flat_two (ps : List (Int × Int)) (ys : List Int) {i : Nat} (hi : i < ps.length) : ((Ym ps ++ ys).drop (i * 2)).take 2 = [(ps.getD i (0, 0)).1, (ps.getD i (0, 0)).2] ∧ i * 2 + 2 ≤ (Ym ps ++ ys).length ∧ (Ym ps ++ ys).getD (i * 2) 0 = (ps.getD i (0, 0)).1 := by
  obtain ⟨h1, h2⟩ := flatP_get ps i hi
  have hl := Wf ps
  have g1 : (Ym ps ++ ys)[i * 2]? = some (ps.getD i (0, 0)).1 := by rw [List.getElem?_append_left (by omega)]; exact h1
  have g2 : (Ym ps ++ ys)[i * 2 + 1]? = some (ps.getD i (0, 0)).2 := by rw [List.getElem?_append_left (by omega)]; exact h2
  refine ⟨?_, by rw [List.length_append]; omega, by rw [List.getD, g1]; rfl⟩
  obtain ⟨l1, e1⟩ := List.getElem?_eq_some_iff.1 g1
  obtain ⟨l2, e2⟩ := List.getElem?_eq_some_iff.1 g2
  rw [List.drop_eq_getElem_cons l1, List.take_succ_cons, List.drop_eq_getElem_cons l2, List.take_succ_cons, List.take_zero, e1, e2]
theorem Mat.loadE (M : Mat h B m k w bk T) {i c : Nat} (hi : i < m) (hc : c ≤ k) {K : Value → Prop} : Xy prog h 26 (.pointer (some ⟨bk i, c * 2, none⟩)) K = K (qV (T i c)) := by
  obtain ⟨cc, xs, h1, h2, h3⟩ := M.row i hi
  obtain ⟨f1, f2, f3⟩ := flat_two (rowC T k i) xs (show c < (rowC T k i).length by rw [rowC_len]; omega)
  rw [rowC_get T hc] at f1
  simp only [Xy, shp_26, Xr, h3, f1, f2, true_and]
  rfl
theorem Mat.loadN (M : Mat h B m k w bk T) {i c : Nat} (hi : i < m) (hc : c ≤ k) {K : Value → Prop} : Xy prog h 3 (.pointer (some ⟨bk i, c * 2, none⟩)) K = K (Zx (T i c).num) := by
  obtain ⟨cc, xs, h1, h2, h3⟩ := M.row i hi
  obtain ⟨f1, f2, f3⟩ := flat_two (rowC T k i) xs (show c < (rowC T k i).length by rw [rowC_len]; omega)
  rw [rowC_get T hc] at f3
  simp only [Xy, Xl, cellK, h3, f3, show c * 2 < (Ym (rowC T k i) ++ xs).length by omega, true_and]
  rfl
theorem fA0o {b o : Nat} {K : Value → Prop} : Xg prog 26 (.pointer (some ⟨b, o, none⟩)) 0 K = K (.pointer (some ⟨b, o, none⟩)) := by
  simp [Xg, fld_26_0, Xp]
/-- A number is written. -/
theorem Mat.storeE (M : Mat h B m k w bk T) {i c : Nat} (hi : i < m) (hc : c ≤ k) (x : Rat) : ∃ h', (∀ K : Yc → Prop, Xj prog h 26 (.pointer (some ⟨bk i, c * 2, none⟩)) (qV x) K = K h') ∧ Mat h' B m k w bk (upd T i c x) ∧ Ext (fun b => b = bk i) h h' ∧ ∀ b, b ≠ bk i → h'[b]? = h[b]? := by
  obtain ⟨cc, xs, h1, h2, h3⟩ := M.row i hi
  refine ⟨h.set (bk i) (.ints (Ym (rowC (upd T i c x) k i) ++ xs) 26 false), fun K => ?_, ⟨?_, ?_, M.inj, M.sep⟩, Ext.set _ rfl, fun b hb => List.getElem?_set_ne (Ne.symm hb)⟩
  · rw [← rowC_upd T hc x]
    exact storePI h3 shp_26 (by rw [rowC_len]; omega)
  · obtain ⟨us, g1⟩ := M.outer
    exact ⟨us, by rw [List.getElem?_set_ne (M.sep i hi)]; exact g1⟩
  · intro j hj
    by_cases hji : j = i
    · subst hji
      exact ⟨cc, xs, h1, h2, Xq (M.lt hj) _⟩
    · obtain ⟨c2, xs2, g1, g2, g3⟩ := M.row j hj
      refine ⟨c2, xs2, g1, g2, ?_⟩
      rw [List.getElem?_set_ne (fun he => hji (M.inj _ _ hj hi he.symm)), rowC_other T hji]
      exact g3
def swp {α : Type} (a p : Nat) (w : Nat → α) : Nat → α := fun i => if i = a then w p else if i = p then w a else w i
theorem set_range {α : Type} (w : Nat → α) {m i : Nat} (us : List α) (x : α) (hi : i < m) : ((List.range m).map w ++ us).set i x = (List.range m).map (fun j => if j = i then x else w j) ++ us := by
  rw [List.set_append_left _ _ (by simpa using hi)]
  congr 1
  apply List.ext_getElem?
  intro j
  rw [List.getElem?_set, List.length_map, List.length_range]
  by_cases h : i = j
  · subst h; simp [hi]
  · rw [if_neg h, List.getElem?_map, List.getElem?_map]
    by_cases hj : j < m
    · simp [hj, Ne.symm h]
    · rw [List.getElem?_eq_none (by simp; omega)]; rfl
/-- Two rows change places. -/
theorem Mat.swap (M : Mat h B m k w bk T) {a p : Nat} (ha : a < m) (hp : p < m) : ∃ h1 h2, (∀ K : Yc → Prop, Xj prog h 47 (.pointer (some ⟨B, a, none⟩)) (w p) K = K h1) ∧ (∀ K : Yc → Prop, Xj prog h1 47 (.pointer (some ⟨B, p, none⟩)) (w a) K = K h2) ∧
    Mat h2 B m k (swp a p w) (swp a p bk) (swapT a p T) ∧ Ext (fun b => b = B) h h2 ∧ ∀ b, b ≠ B → h2[b]? = h[b]? := by
  obtain ⟨us, g1⟩ := M.outer
  have one_w : ∀ i, i < m → one (w i) = true := fun i hi => by
    obtain ⟨c, xs, e1, _⟩ := M.row i hi
    rw [e1]; rfl
  have hl : ∀ i, i < m → i < ((List.range m).map w ++ us).length := fun i hi => by simp; omega
  have s1 : ∀ K : Yc → Prop, Xj prog h 47 (.pointer (some ⟨B, a, none⟩)) (w p) K = K (h.set B (.cells ((List.range m).map (fun j => if j = a then w p else w j) ++ us) 47 false)) := fun K => by
    rw [storeC g1 shp_47 (one_w p hp) (hl a ha), set_range w us _ ha]
  have g2 : (h.set B (.cells ((List.range m).map (fun j => if j = a then w p else w j) ++ us) 47 false))[B]? = some (.cells ((List.range m).map (fun j => if j = a then w p else w j) ++ us) 47 false) := Xq M.blt _
  have s2 : ∀ K : Yc → Prop, Xj prog (h.set B (.cells ((List.range m).map (fun j => if j = a then w p else w j) ++ us) 47 false)) 47 (.pointer (some ⟨B, p, none⟩)) (w a) K =
      K (h.set B (.cells ((List.range m).map (swp a p w) ++ us) 47 false)) := fun K => by
    rw [storeC g2 shp_47 (one_w a ha) (by simp; omega), set_range _ us _ hp, List.set_set]
    have : (fun j => if j = p then w a else if j = a then w p else w j) = swp a p w := by
      funext j
      simp only [swp]
      by_cases h1 : j = p
      · subst h1
        by_cases h2 : j = a
        · subst h2; simp
        · simp [h2]
      · simp [h1]
    rw [this]
  have hcase : ∀ i, i < m → ∃ i', i' < m ∧ swp a p w i = w i' ∧ swp a p bk i = bk i' ∧ swapT a p T i = T i' ∧ i' = swp a p id i := fun i hi => by
    by_cases h1 : i = a
    · exact ⟨p, hp, by simp [swp, h1], by simp [swp, h1], by simp [swapT, h1], by simp [swp, h1]⟩
    · by_cases h2 : i = p
      · subst h2; exact ⟨a, ha, by simp [swp, h1], by simp [swp, h1], by simp [swapT, h1], by simp [swp, h1]⟩
      · exact ⟨i, hi, by simp [swp, h1, h2], by simp [swp, h1, h2], by simp [swapT, h1, h2], by simp [swp, h1, h2]⟩
  refine ⟨_, _, s1, s2, ⟨⟨us, Xq M.blt _⟩, fun i hi => ?_, fun i j hi hj he => ?_, fun i hi => ?_⟩, Ext.set _ rfl, fun b hb => List.getElem?_set_ne (Ne.symm hb)⟩
  · obtain ⟨i', q1, q2, q3, q4, _⟩ := hcase i hi
    obtain ⟨c, xs, e1, e2, e3⟩ := M.row i' q1
    refine ⟨c, xs, by rw [q2, q3]; exact e1, e2, ?_⟩
    rw [q3, List.getElem?_set_ne (fun he => M.sep i' q1 he.symm), show rowC (swapT a p T) k i = rowC T k i' by simp only [rowC, q4]]
    exact e3
  · obtain ⟨i', q1, _, q3, _, q5⟩ := hcase i hi
    obtain ⟨j', r1, _, r3, _, r5⟩ := hcase j hj
    rw [q3, r3] at he
    have := M.inj _ _ q1 r1 he
    rw [q5, r5] at this
    simp only [swp, id] at this
    grind
  · obtain ⟨i', q1, _, q3, _⟩ := hcase i hi
    rw [q3]; exact M.sep i' q1
/-- The rows from one on. -/
theorem Mat.tail (M : Mat h B m k w bk T) {a : Nat} (ha : a < m) (hC : m ≤ C) {K : Value → Prop} (hk : ∀ v, ValSl h v ((List.range (m - a)).map fun i => w (a + i)) → K v) : Xi prog 103 (.slice (some ⟨B, 0, some 0⟩) m C) (some (Zx (a : Nat))) none none K := by
  obtain ⟨us, g1⟩ := M.outer
  have hv : view h B = some ((List.range m).map w ++ us, 47, false) := by simp [view, g1, Blk.view]
  have e1 : (((List.range m).map w ++ us).drop a).take (m - a) = (List.range (m - a)).map fun i => w (a + i) := by
    apply List.ext_getElem?
    intro i
    rw [List.getElem?_take]
    by_cases hi : i < m - a
    · rw [if_pos hi, List.getElem?_drop, List.getElem?_append_left (by simp; omega)]
      simp [hi, show a + i < m by omega]
    · rw [if_neg hi, List.getElem?_eq_none (by simp; omega)]
  have key : ∀ v, v = .slice (some ⟨B, a, some 0⟩) (m - a) (C - a) → K v := fun v hv' => hk v (.inr ⟨B, a, some 0, C - a, _, _, _, by rw [hv']; simp, by simp; omega, hv, by simp only [List.length_map, List.length_range]; exact e1⟩)
  simp only [Xi, el_103, esz_47, bnd, Option.bind_some, Option.isSome_some]
  refine ⟨by omega, by omega, by omega, fun h0 => by simp at h0, fun _ => ?_⟩
  rcases Nat.eq_zero_or_pos a with h0 | h0
  · subst h0
    exact .inl ⟨rfl, key _ (by simp)⟩
  · refine .inr ⟨by omega, .inl ⟨by omega, by decide, key _ ?_⟩⟩
    have e2 : ((m : Int) - (a : Int)).toNat = m - a := by omega
    have e3 : C - ((a : Int)).toNat = C - a := by omega
    simp [e2]
end

/-- The first one, as a number; less than 0: there is none. -/
def fstI (n : Nat) (F : Nat → Bool) : Int := match (List.range n).find? F with | some i => (i : Int) | none => -1

theorem s111_callW [Tabs Try.prog] {args : List Value} {h : Yc} {Q : Value → Yc → Prop} (hsz : args.length ≤ 19) (hk : AWS Try.prog 19 s111 (Zu Try.prog [.tmp 4] Q) (Zp 0 args) h) : ACall Try.prog 111 args h Q :=
  Yx Try.func111 rfl (enters_of Try.func111 (by kernel_rfl) rfl) rfl rfl (by decide) s111_strip s111_ok hsz hk
theorem idxRow_call [Tabs prog] {h : Yc} {v : Value} {ws : List Value} {g : FuncId} {cap : Array Value} {F : Nat → Bool} (hv : ValSl h v ws) (hl : ws.length < 9223372036854775808)
    (hc : ∀ i, i < ws.length → Xa prog g ([ws.getD i undef] ++ cap.toList) h (.bool (F i))) : Xa prog 111 [v, .func (.func g) #[] cap] h (Zx (fstI ws.length F)) := by
  refine s111_callW (by simp) ?_
  simp only [s111]
  refine Zy fun N1 hN1 => ?_
  simp (maxSteps := 2000000) only [s111, ↓Za, ↓Zo, ↓Zr, ↓Ze, ↓Zi, ↓Zs, ↓Zf, ↓Zl, ↓Zg, ↓Zc, ↓Zb, ↓vdn, vup, Zh, Zk, Zm, Zn, Zj, List.map_cons, List.map_nil, cond_true, cond_false, aop, Zv, Zq, Zp, ev, sput, Zt, Zz, Yb, unK, Zd, Zw, Nat.reduceBEq, Nat.reduceAdd, Int.reduceBEq, Int.reduceBNe, Int.reduceLT, Zu, Ya, tup, tyf]
  refine hN1 [(0, v), (1, .func (.func g) #[] cap), (4, .int .i64 0)] _ _ ?_ (by simp (maxSteps := 2000000) only [↓Za, ↓Zo, ↓Zr, ↓Ze, ↓Zi, ↓Zs, ↓Zf, ↓Zl, ↓Zg, ↓Zc, ↓Zb, ↓vdn, vup, Zh, Zk, Zm, Zn, Zj, List.map_cons, List.map_nil, cond_true, cond_false, aop, Zv, Zq, Zp, ev, sput, Zt, Zz, Yb, unK, Zd, Zw, Nat.reduceBEq, Nat.reduceAdd, Int.reduceBEq, Int.reduceBNe, Int.reduceLT, Zu, Ya, tup, tyf])
  clear hN1
  try clear N1
  refine Ye fun Z hZ => ?_
  refine Zy fun N2 hN2 => ?_
  simp (maxSteps := 2000000) only [s111, ↓Za, ↓Zo, ↓Zr, ↓Ze, ↓Zi, ↓Zs, ↓Zf, ↓Zl, ↓Zg, ↓Zc, ↓Zb, ↓vdn, vup, Zh, Zk, Zm, Zn, Zj, List.map_cons, List.map_nil, cond_true, cond_false, aop, Zv, Zq, Zp, ev, sput, Zt, Zz, Yb, unK, Zd, Zw, Nat.reduceBEq, Nat.reduceAdd, Int.reduceBEq, Int.reduceBNe, Int.reduceLT, Zu, Ya, tup, tyf, hv.len]
  refine hN2 [(0, v), (1, .func (.func g) #[] cap), (4, .int .i64 0), (6, v), (7, Zx ws.length), (8, .int .i64 0)] _ _ ?_ (by simp (maxSteps := 2000000) only [↓Za, ↓Zo, ↓Zr, ↓Ze, ↓Zi, ↓Zs, ↓Zf, ↓Zl, ↓Zg, ↓Zc, ↓Zb, ↓vdn, vup, Zh, Zk, Zm, Zn, Zj, List.map_cons, List.map_nil, cond_true, cond_false, aop, Zv, Zq, Zp, ev, sput, Zt, Zz, Yb, unK, Zd, Zw, Nat.reduceBEq, Nat.reduceAdd, Int.reduceBEq, Int.reduceBNe, Int.reduceLT, Zu, Ya, tup, tyf])
  clear hN2
  try clear N2
  refine Yf ?_
  refine Yh fun Q hQ => ?_
  refine Yv (γ := Nat) (fun k => k ≤ ws.length ∧ ∀ i, i < k → F i = false)
    (fun k => ([(0, v), (1, .func (.func g) #[] cap), (4, .int .i64 0), (6, v), (7, Zx ws.length), (8, Zx (k : Nat))], h)) (fun k => ws.length - k) 0 ⟨Nat.zero_le _, fun i hi => by omega⟩ (by simp (maxSteps := 2000000) only [↓Za, ↓Zo, ↓Zr, ↓Ze, ↓Zi, ↓Zs, ↓Zf, ↓Zl, ↓Zg, ↓Zc, ↓Zb, ↓vdn, vup, Zh, Zk, Zm, Zn, Zj, List.map_cons, List.map_nil, cond_true, cond_false, aop, Zv, Zq, Zp, ev, sput, Zt, Zz, Yb, unK, Zd, Zw, Nat.reduceBEq, Nat.reduceAdd, Int.reduceBEq, Int.reduceBNe, Int.reduceLT, Zu, Ya, tup, tyf, Int.natCast_zero]) rfl ?_
  rintro k ⟨hk, hall⟩
  refine Yh fun Q2 hQ2 => ?_
  simp only [l111_0]
  by_cases hin : (k : Int) < ws.length
  · have hk' : k < ws.length := by omega
    refine Zy fun N3 hN3 => ?_
    simp (maxSteps := 2000000) only [s111, ↓Za, ↓Zo, ↓Zr, ↓Ze, ↓Zi, ↓Zs, ↓Zf, ↓Zl, ↓Zg, ↓Zc, ↓Zb, ↓vdn, vup, Zh, Zk, Zm, Zn, Zj, List.map_cons, List.map_nil, cond_true, cond_false, aop, Zv, Zq, Zp, ev, sput, Zt, Zz, Yb, unK, Zd, Zw, Nat.reduceBEq, Nat.reduceAdd, Int.reduceBEq, Int.reduceBNe, Int.reduceLT, Zu, Ya, tup, tyf, hin]
    refine hN3 [(0, v), (1, .func (.func g) #[] cap), (4, .int .i64 0), (6, v), (7, Zx ws.length), (8, Zx (k : Nat)), (9, .bool true)] _ _ ?_ (by simp (maxSteps := 2000000) only [↓Za, ↓Zo, ↓Zr, ↓Ze, ↓Zi, ↓Zs, ↓Zf, ↓Zl, ↓Zg, ↓Zc, ↓Zb, ↓vdn, vup, Zh, Zk, Zm, Zn, Zj, List.map_cons, List.map_nil, cond_true, cond_false, aop, Zv, Zq, Zp, ev, sput, Zt, Zz, Yb, unK, Zd, Zw, Nat.reduceBEq, Nat.reduceAdd, Int.reduceBEq, Int.reduceBNe, Int.reduceLT, Zu, Ya, tup, tyf])
    clear hN3
    try clear N3
    refine Zy fun N4 hN4 => ?_
    simp (maxSteps := 2000000) only [s111, ↓Za, ↓Zo, ↓Zr, ↓Ze, ↓Zi, ↓Zs, ↓Zf, ↓Zl, ↓Zg, ↓Zc, ↓Zb, ↓vdn, vup, Zh, Zk, Zm, Zn, Zj, List.map_cons, List.map_nil, cond_true, cond_false, aop, Zv, Zq, Zp, ev, sput, Zt, Zz, Yb, unK, Zd, Zw, Nat.reduceBEq, Nat.reduceAdd, Int.reduceBEq, Int.reduceBNe, Int.reduceLT, Zu, Ya, tup, tyf]
    refine hN4 [(0, v), (1, .func (.func g) #[] cap), (4, .int .i64 0), (6, v), (7, Zx ws.length), (8, Zx (k : Nat))] _ _ ?_ (by simp (maxSteps := 2000000) only [↓Za, ↓Zo, ↓Zr, ↓Ze, ↓Zi, ↓Zs, ↓Zf, ↓Zl, ↓Zg, ↓Zc, ↓Zb, ↓vdn, vup, Zh, Zk, Zm, Zn, Zj, List.map_cons, List.map_nil, cond_true, cond_false, aop, Zv, Zq, Zp, ev, sput, Zt, Zz, Yb, unK, Zd, Zw, Nat.reduceBEq, Nat.reduceAdd, Int.reduceBEq, Int.reduceBNe, Int.reduceLT, Zu, Ya, tup, tyf])
    clear hN4
    try clear N4
    refine Ye fun B hB => ?_
    refine Yf ?_
    refine Zy fun N5 hN5 => ?_
    simp (maxSteps := 2000000) only [s111, ↓Za, ↓Zo, ↓Zr, ↓Ze, ↓Zi, ↓Zs, ↓Zf, ↓Zl, ↓Zg, ↓Zc, ↓Zb, ↓vdn, vup, Zh, Zk, Zm, Zn, Zj, List.map_cons, List.map_nil, cond_true, cond_false, aop, Zv, Zq, Zp, ev, sput, Zt, Zz, Yb, unK, Zd, Zw, Nat.reduceBEq, Nat.reduceAdd, Int.reduceBEq, Int.reduceBNe, Int.reduceLT, Zu, Ya, tup, tyf]
    refine hN5 [(0, v), (1, .func (.func g) #[] cap), (4, .int .i64 0), (5, Zx (k : Nat)), (6, v), (7, Zx ws.length), (8, Zx (k : Nat))] _ _ ?_ (by simp (maxSteps := 2000000) only [↓Za, ↓Zo, ↓Zr, ↓Ze, ↓Zi, ↓Zs, ↓Zf, ↓Zl, ↓Zg, ↓Zc, ↓Zb, ↓vdn, vup, Zh, Zk, Zm, Zn, Zj, List.map_cons, List.map_nil, cond_true, cond_false, aop, Zv, Zq, Zp, ev, sput, Zt, Zz, Yb, unK, Zd, Zw, Nat.reduceBEq, Nat.reduceAdd, Int.reduceBEq, Int.reduceBNe, Int.reduceLT, Zu, Ya, tup, tyf])
    clear hN5
    try clear N5
    refine Zy fun N6 hN6 => ?_
    simp (maxSteps := 2000000) only [s111, ↓Za, ↓Zo, ↓Zr, ↓Ze, ↓Zi, ↓Zs, ↓Zf, ↓Zl, ↓Zg, ↓Zc, ↓Zb, ↓vdn, vup, Zh, Zk, Zm, Zn, Zj, List.map_cons, List.map_nil, cond_true, cond_false, aop, Zv, Zq, Zp, ev, sput, Zt, Zz, Yb, unK, Zd, Zw, Nat.reduceBEq, Nat.reduceAdd, Int.reduceBEq, Int.reduceBNe, Int.reduceLT, Zu, Ya, tup, tyf, hv.idx el_103 esz_47 hk', hv.load shp_47 hk', Yr, List.nil_append, List.append_nil]
    refine (hc k hk').mono ?_
    rintro _ h ⟨rfl, rfl⟩
    refine hN6 [(0, v), (1, .func (.func g) #[] cap), (4, .int .i64 0), (5, Zx (k : Nat)), (6, v), (7, Zx ws.length), (8, Zx (k : Nat)), (16, .bool (F k))] _ _ ?_ (by simp (maxSteps := 2000000) only [↓Za, ↓Zo, ↓Zr, ↓Ze, ↓Zi, ↓Zs, ↓Zf, ↓Zl, ↓Zg, ↓Zc, ↓Zb, ↓vdn, vup, Zh, Zk, Zm, Zn, Zj, List.map_cons, List.map_nil, cond_true, cond_false, aop, Zv, Zq, Zp, ev, sput, Zt, Zz, Yb, unK, Zd, Zw, Nat.reduceBEq, Nat.reduceAdd, Int.reduceBEq, Int.reduceBNe, Int.reduceLT, Zu, Ya, tup, tyf])
    clear hN6
    try clear N6
    refine Yd ?_
    cases hf : F k with
    | true =>
      simp (maxSteps := 2000000) only [s111, ↓Za, ↓Zo, ↓Zr, ↓Ze, ↓Zi, ↓Zs, ↓Zf, ↓Zl, ↓Zg, ↓Zc, ↓Zb, ↓vdn, vup, Zh, Zk, Zm, Zn, Zj, List.map_cons, List.map_nil, cond_true, cond_false, aop, Zv, Zq, Zp, ev, sput, Zt, Zz, Yb, unK, Zd, Zw, Nat.reduceBEq, Nat.reduceAdd, Int.reduceBEq, Int.reduceBNe, Int.reduceLT, Zu, Ya, tup, tyf]
      refine hQ2 _ _ _ (hQ _ _ _ ?_)
      have e : fstI ws.length F = (k : Int) := by rw [fstI, find_spec hk' hf hall]
      simp (maxSteps := 2000000) only [s111, ↓Za, ↓Zo, ↓Zr, ↓Ze, ↓Zi, ↓Zs, ↓Zf, ↓Zl, ↓Zg, ↓Zc, ↓Zb, ↓vdn, vup, Zh, Zk, Zm, Zn, Zj, List.map_cons, List.map_nil, cond_true, cond_false, aop, Zv, Zq, Zp, ev, sput, Zt, Zz, Yb, unK, Zd, Zw, Nat.reduceBEq, Nat.reduceAdd, Int.reduceBEq, Int.reduceBNe, Int.reduceLT, Zu, Ya, tup, tyf, e]
    | false =>
      simp (maxSteps := 2000000) only [s111, ↓Za, ↓Zo, ↓Zr, ↓Ze, ↓Zi, ↓Zs, ↓Zf, ↓Zl, ↓Zg, ↓Zc, ↓Zb, ↓vdn, vup, Zh, Zk, Zm, Zn, Zj, List.map_cons, List.map_nil, cond_true, cond_false, aop, Zv, Zq, Zp, ev, sput, Zt, Zz, Yb, unK, Zd, Zw, Nat.reduceBEq, Nat.reduceAdd, Int.reduceBEq, Int.reduceBNe, Int.reduceLT, Zu, Ya, tup, tyf]
      refine hB [(0, v), (1, .func (.func g) #[] cap), (4, .int .i64 0), (6, v), (7, Zx ws.length), (8, Zx (k : Nat))] _ _ ?_ (by simp (maxSteps := 2000000) only [↓Za, ↓Zo, ↓Zr, ↓Ze, ↓Zi, ↓Zs, ↓Zf, ↓Zl, ↓Zg, ↓Zc, ↓Zb, ↓vdn, vup, Zh, Zk, Zm, Zn, Zj, List.map_cons, List.map_nil, cond_true, cond_false, aop, Zv, Zq, Zp, ev, sput, Zt, Zz, Yb, unK, Zd, Zw, Nat.reduceBEq, Nat.reduceAdd, Int.reduceBEq, Int.reduceBNe, Int.reduceLT, Zu, Ya, tup, tyf])
      clear hB
      try clear B
      refine Yd ?_
      simp (maxSteps := 2000000) only [s111, ↓Za, ↓Zo, ↓Zr, ↓Ze, ↓Zi, ↓Zs, ↓Zf, ↓Zl, ↓Zg, ↓Zc, ↓Zb, ↓vdn, vup, Zh, Zk, Zm, Zn, Zj, List.map_cons, List.map_nil, cond_true, cond_false, aop, Zv, Zq, Zp, ev, sput, Zt, Zz, Yb, unK, Zd, Zw, Nat.reduceBEq, Nat.reduceAdd, Int.reduceBEq, Int.reduceBNe, Int.reduceLT, Zu, Ya, tup, tyf, add1 (show k < 9223372036854775807 by omega)]
      refine hQ2 _ _ _ ⟨k + 1, ⟨hk', fun i hi => ?_⟩, by omega, by simp (maxSteps := 2000000) only [↓Za, ↓Zo, ↓Zr, ↓Ze, ↓Zi, ↓Zs, ↓Zf, ↓Zl, ↓Zg, ↓Zc, ↓Zb, ↓vdn, vup, Zh, Zk, Zm, Zn, Zj, List.map_cons, List.map_nil, cond_true, cond_false, aop, Zv, Zq, Zp, ev, sput, Zt, Zz, Yb, unK, Zd, Zw, Nat.reduceBEq, Nat.reduceAdd, Int.reduceBEq, Int.reduceBNe, Int.reduceLT, Zu, Ya, tup, tyf], rfl⟩
      rcases Nat.lt_or_ge i k with h1 | h1
      · exact hall i h1
      · rw [show i = k by omega]; exact hf
  · obtain rfl : k = ws.length := by omega
    refine Zy fun N7 hN7 => ?_
    simp (maxSteps := 2000000) only [s111, ↓Za, ↓Zo, ↓Zr, ↓Ze, ↓Zi, ↓Zs, ↓Zf, ↓Zl, ↓Zg, ↓Zc, ↓Zb, ↓vdn, vup, Zh, Zk, Zm, Zn, Zj, List.map_cons, List.map_nil, cond_true, cond_false, aop, Zv, Zq, Zp, ev, sput, Zt, Zz, Yb, unK, Zd, Zw, Nat.reduceBEq, Nat.reduceAdd, Int.reduceBEq, Int.reduceBNe, Int.reduceLT, Zu, Ya, tup, tyf, hin]
    refine hN7 [(0, v), (1, .func (.func g) #[] cap), (4, .int .i64 0), (6, v), (7, Zx ws.length), (8, Zx ws.length), (9, .bool false)] _ _ ?_ (by simp (maxSteps := 2000000) only [↓Za, ↓Zo, ↓Zr, ↓Ze, ↓Zi, ↓Zs, ↓Zf, ↓Zl, ↓Zg, ↓Zc, ↓Zb, ↓vdn, vup, Zh, Zk, Zm, Zn, Zj, List.map_cons, List.map_nil, cond_true, cond_false, aop, Zv, Zq, Zp, ev, sput, Zt, Zz, Yb, unK, Zd, Zw, Nat.reduceBEq, Nat.reduceAdd, Int.reduceBEq, Int.reduceBNe, Int.reduceLT, Zu, Ya, tup, tyf])
    clear hN7
    try clear N7
    refine Zy fun N8 hN8 => ?_
    simp (maxSteps := 2000000) only [s111, ↓Za, ↓Zo, ↓Zr, ↓Ze, ↓Zi, ↓Zs, ↓Zf, ↓Zl, ↓Zg, ↓Zc, ↓Zb, ↓vdn, vup, Zh, Zk, Zm, Zn, Zj, List.map_cons, List.map_nil, cond_true, cond_false, aop, Zv, Zq, Zp, ev, sput, Zt, Zz, Yb, unK, Zd, Zw, Nat.reduceBEq, Nat.reduceAdd, Int.reduceBEq, Int.reduceBNe, Int.reduceLT, Zu, Ya, tup, tyf]
    refine hQ2 _ _ _ (hQ _ _ _ ?_)
    simp (maxSteps := 2000000) only [s111, ↓Za, ↓Zo, ↓Zr, ↓Ze, ↓Zi, ↓Zs, ↓Zf, ↓Zl, ↓Zg, ↓Zc, ↓Zb, ↓vdn, vup, Zh, Zk, Zm, Zn, Zj, List.map_cons, List.map_nil, cond_true, cond_false, aop, Zv, Zq, Zp, ev, sput, Zt, Zz, Yb, unK, Zd, Zw, Nat.reduceBEq, Nat.reduceAdd, Int.reduceBEq, Int.reduceBNe, Int.reduceLT, Zu, Ya, tup, tyf, if_true]
    refine hZ [(0, v), (1, .func (.func g) #[] cap), (4, .int .i64 0), (6, v), (7, Zx ws.length), (8, Zx ws.length), (9, .bool false)] _ _ ?_ (by simp (maxSteps := 2000000) only [↓Za, ↓Zo, ↓Zr, ↓Ze, ↓Zi, ↓Zs, ↓Zf, ↓Zl, ↓Zg, ↓Zc, ↓Zb, ↓vdn, vup, Zh, Zk, Zm, Zn, Zj, List.map_cons, List.map_nil, cond_true, cond_false, aop, Zv, Zq, Zp, ev, sput, Zt, Zz, Yb, unK, Zd, Zw, Nat.reduceBEq, Nat.reduceAdd, Int.reduceBEq, Int.reduceBNe, Int.reduceLT, Zu, Ya, tup, tyf])
    clear hZ
    try clear Z
    refine Yd ?_
    have e : fstI ws.length F = -1 := by rw [fstI, find_none hall]
    simp (maxSteps := 2000000) only [s111, ↓Za, ↓Zo, ↓Zr, ↓Ze, ↓Zi, ↓Zs, ↓Zf, ↓Zl, ↓Zg, ↓Zc, ↓Zb, ↓vdn, vup, Zh, Zk, Zm, Zn, Zj, List.map_cons, List.map_nil, cond_true, cond_false, aop, Zv, Zq, Zp, ev, sput, Zt, Zz, Yb, unK, Zd, Zw, Nat.reduceBEq, Nat.reduceAdd, Int.reduceBEq, Int.reduceBNe, Int.reduceLT, Zu, Ya, tup, tyf, e]

theorem s112_callW [Tabs Try.prog] {args : List Value} {h : Yc} {Q : Value → Yc → Prop} (hsz : args.length ≤ 10) (hk : AWS Try.prog 10 s112 (Zu Try.prog [.tmp 3] Q) (Zp 0 args) h) : ACall Try.prog 112 args h Q :=
  Yx Try.func112 rfl (enters_of Try.func112 (by kernel_rfl) rfl) rfl rfl (by decide) s112_strip s112_ok hsz hk
theorem nonzero_call [Tabs prog] {h : Yc} {B m k b a i : Nat} {w : Nat → Value} {bk : Nat → Nat} {T : Wu} (M : Mat h B m k w bk T) (hb : h[b]? = some (.cells [Zx (a : Nat)] 3 false)) (hi : i < m) (ha : a ≤ k) :
    Xa prog 112 [w i, .pointer (some ⟨b, 0, none⟩)] h (.bool (decide (T i a ≠ 0))) := by
  refine s112_callW (by simp) ?_
  refine Yd ?_
  have e : (((T i a).num) != 0) = decide (T i a ≠ 0) := by
    rw [Bool.eq_iff_iff]
    simp [Rat.num_eq_zero]
  simp (maxSteps := 2000000) only [s112, ↓Za, ↓Zo, ↓Zr, ↓Ze, ↓Zi, ↓Zs, ↓Zf, ↓Zl, ↓Zg, ↓Zc, ↓Zb, ↓vdn, vup, Zh, Zk, Zm, Zn, Zj, List.map_cons, List.map_nil, cond_true, cond_false, aop, Zv, Zq, Zp, ev, sput, Zt, Zz, Yb, unK, Zd, Zw, Nat.reduceBEq, Nat.reduceAdd, Int.reduceBEq, Int.reduceBNe, Int.reduceLT, Zu, Ya, tup, tyf, load1 hb Xl, M.idxR hi ha, fA0o, M.loadN hi ha, e]
end Go.Proofs.Try.Am

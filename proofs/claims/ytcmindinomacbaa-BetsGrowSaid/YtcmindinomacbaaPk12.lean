/-
  bets: bets that are valid, in the program.
  bets: the corners.
  bets: the corners, found.
  Printed by gen.py: the code of some functions, without what no step looks at; held against the program's own by the kernel.
-/
import Derived.Test.YtcmindinomacbaaPk8
import Derived.Test.YtcmindinomacbaaPk11
import Derived.Test.YtcmindinomacbaaPk3
import Derived.Test.YtcmindinomacbaaProg
import Derived.KernelRfl
import Derived.Shelf.Abstract
set_option linter.all false
namespace Go.Proofs.Try.Am
open Go.Am Bq
set_option maxRecDepth 100000
set_option maxHeartbeats 1000000

abbrev bB (x y : Int) : Blk := .cells [Zx x, Zx y] 92 false
abbrev zB : Blk := .cells [.int .i64 0, .int .i64 0] 92 false
theorem storeBt {h : Yc} {b : Nat} {x y : Int} {e : TypeId} {c : List Value} {K : Yc → Prop} (hb : h[b]? = some (.cells c e false)) (hc : c.length = 2) : Xj prog h 92 (.pointer (some ⟨b, 0, none⟩)) (.agg #[Zx x, Zx y]) K = K (h.set b (.cells [Zx x, Zx y] e false)) :=
  storeA (vs := [Zx x, Zx y]) hb (by rw [shp_92]; rfl) rfl (by rw [hc]; rfl)
theorem bA0 {b : Nat} {K : Value → Prop} : Xg prog 92 (.pointer (some ⟨b, 0, none⟩)) 0 K = K (.pointer (some ⟨b, 0, none⟩)) := fldA fld_92_0 Xp
theorem bA1 {b : Nat} {K : Value → Prop} : Xg prog 92 (.pointer (some ⟨b, 0, none⟩)) 1 K = K (.pointer (some ⟨b, 1, none⟩)) := fldA fld_92_1 Xp
theorem tA0 {b : Nat} {K : Value → Prop} : Xg prog 86 (.pointer (some ⟨b, 0, none⟩)) 0 K = K (.pointer (some ⟨b, 0, none⟩)) := fldA fld_86_0 Xp
theorem tA1 {b : Nat} {K : Value → Prop} : Xg prog 86 (.pointer (some ⟨b, 0, none⟩)) 1 K = K (.pointer (some ⟨b, 1, none⟩)) := fldA fld_86_1 esz_30
theorem boxB {h : Yc} {x y : Int} {K : Value → Yc → Prop} : boxK prog h 92 (.agg #[Zx x, Zx y]) K = K (Xe h) (h ++ [bB x y]) := by
  simp [boxK, esz_92, Xe, cellsOf]
theorem boxT {h : Yc} {n : Int} {v : Value} {K : Value → Yc → Prop} : boxK prog h 86 (.agg #[Zx n, v]) K = K (Xe h) (h ++ [.cells [Zx n, v] 86 false]) := by
  simp [boxK, esz_86, Xe, cellsOf]
theorem loadT0 {h : Yc} {b : Nat} {n : Int} {v : Value} {K : Value → Prop} (hb : h[b]? = some (.cells [Zx n, v] 86 false)) : Xy prog h 3 (.pointer (some ⟨b, 0, none⟩)) K = K (Zx n) := loadC hb Xl rfl
theorem loadT1 {h : Yc} {b : Nat} {n : Int} {v : Value} {K : Value → Prop} (hb : h[b]? = some (.cells [Zx n, v] 86 false)) : Xy prog h 30 (.pointer (some ⟨b, 1, none⟩)) K = K v := loadC hb shp_30 rfl
theorem loadB0 {h : Yc} {b : Nat} {x y : Int} {K : Value → Prop} (hb : h[b]? = some (bB x y)) : Xy prog h 3 (.pointer (some ⟨b, 0, none⟩)) K = K (Zx x) := loadC hb Xl rfl
theorem loadB1 {h : Yc} {b : Nat} {x y : Int} {K : Value → Prop} (hb : h[b]? = some (bB x y)) : Xy prog h 3 (.pointer (some ⟨b, 1, none⟩)) K = K (Zx y) := loadC hb Xl rfl

theorem s115_callW [Tabs Try.prog] {args : List Value} {h : Yc} {Q : Value → Yc → Prop} (hsz : args.length ≤ 19) (hk : AWS Try.prog 19 s115 (Zu Try.prog [.tmp 4] Q) (Zp 0 args) h) : ACall Try.prog 115 args h Q :=
  Yx Try.func115 rfl (enters_of Try.func115 (by kernel_rfl) rfl) rfl rfl (by decide) s115_strip s115_ok hsz hk
theorem idxB_call [Tabs prog] {h : Yc} {v : Value} {ps : List (Int × Int)} {g : FuncId} {cap : Array Value} {f : Int × Int → Bool} (hv : PairSl h v ps) (hl : ps.length < 9223372036854775808)
    (hc : ∀ h', Ext (fun _ => False) h h' → ∀ p ∈ ps, Xa prog g ([.agg #[Zx p.1, Zx p.2]] ++ cap.toList) h' (.bool (f p))) : ACall prog 115 [v, .func (.func g) #[] cap] h fun r h' => h' = h ∧ ∃ i : Int, r = Zx i ∧ decide (0 ≤ i) = ps.any f := by
  refine s115_callW (by simp) ?_
  simp only [s115]
  refine Zy fun N1 hN1 => ?_
  simp (maxSteps := 2000000) only [s115, ↓Za, ↓Zo, ↓Zr, ↓Ze, ↓Zi, ↓Zs, ↓Zf, ↓Zl, ↓Zg, ↓Zc, ↓Zb, ↓vdn, vup, Zh, Zk, Zm, Zn, Zj, List.map_cons, List.map_nil, cond_true, cond_false, aop, Zv, Zq, Zp, ev, sput, Zt, Zz, Yb, unK, Zd, Zw, Nat.reduceBEq, Nat.reduceAdd, Int.reduceBEq, Int.reduceBNe, Int.reduceLT, Zu, Ya, tup, tyf]
  refine hN1 [(0, v), (1, .func (.func g) #[] cap), (4, .int .i64 0)] _ _ ?_ (by simp (maxSteps := 2000000) only [↓Za, ↓Zo, ↓Zr, ↓Ze, ↓Zi, ↓Zs, ↓Zf, ↓Zl, ↓Zg, ↓Zc, ↓Zb, ↓vdn, vup, Zh, Zk, Zm, Zn, Zj, List.map_cons, List.map_nil, cond_true, cond_false, aop, Zv, Zq, Zp, ev, sput, Zt, Zz, Yb, unK, Zd, Zw, Nat.reduceBEq, Nat.reduceAdd, Int.reduceBEq, Int.reduceBNe, Int.reduceLT, Zu, Ya, tup, tyf])
  clear hN1
  try clear N1
  refine Ye fun Z hZ => ?_
  refine Zy fun N2 hN2 => ?_
  simp (maxSteps := 2000000) only [s115, ↓Za, ↓Zo, ↓Zr, ↓Ze, ↓Zi, ↓Zs, ↓Zf, ↓Zl, ↓Zg, ↓Zc, ↓Zb, ↓vdn, vup, Zh, Zk, Zm, Zn, Zj, List.map_cons, List.map_nil, cond_true, cond_false, aop, Zv, Zq, Zp, ev, sput, Zt, Zz, Yb, unK, Zd, Zw, Nat.reduceBEq, Nat.reduceAdd, Int.reduceBEq, Int.reduceBNe, Int.reduceLT, Zu, Ya, tup, tyf, hv.len]
  refine hN2 [(0, v), (1, .func (.func g) #[] cap), (4, .int .i64 0), (6, v), (7, Zx ps.length), (8, .int .i64 0)] _ _ ?_ (by simp (maxSteps := 2000000) only [↓Za, ↓Zo, ↓Zr, ↓Ze, ↓Zi, ↓Zs, ↓Zf, ↓Zl, ↓Zg, ↓Zc, ↓Zb, ↓vdn, vup, Zh, Zk, Zm, Zn, Zj, List.map_cons, List.map_nil, cond_true, cond_false, aop, Zv, Zq, Zp, ev, sput, Zt, Zz, Yb, unK, Zd, Zw, Nat.reduceBEq, Nat.reduceAdd, Int.reduceBEq, Int.reduceBNe, Int.reduceLT, Zu, Ya, tup, tyf])
  clear hN2
  try clear N2
  refine Yf ?_
  refine Yh fun Q hQ => ?_
  refine Yv (γ := Nat) (fun k => k ≤ ps.length ∧ ∀ p ∈ ps.take k, f p = false)
    (fun k => ([(0, v), (1, .func (.func g) #[] cap), (4, .int .i64 0), (6, v), (7, Zx ps.length), (8, Zx (k : Nat))], h)) (fun k => ps.length - k) 0 ⟨Nat.zero_le _, by simp⟩ (by simp (maxSteps := 2000000) only [↓Za, ↓Zo, ↓Zr, ↓Ze, ↓Zi, ↓Zs, ↓Zf, ↓Zl, ↓Zg, ↓Zc, ↓Zb, ↓vdn, vup, Zh, Zk, Zm, Zn, Zj, List.map_cons, List.map_nil, cond_true, cond_false, aop, Zv, Zq, Zp, ev, sput, Zt, Zz, Yb, unK, Zd, Zw, Nat.reduceBEq, Nat.reduceAdd, Int.reduceBEq, Int.reduceBNe, Int.reduceLT, Zu, Ya, tup, tyf, Int.natCast_zero]) rfl ?_
  rintro k ⟨hk, hall⟩
  refine Yh fun Q2 hQ2 => ?_
  simp only [l115_0]
  by_cases hin : (k : Int) < ps.length
  · have hk' : k < ps.length := by omega
    obtain ⟨⟨x, y⟩, hxy⟩ : ∃ p, ps.getD k (0, 0) = p := ⟨_, rfl⟩
    have hmem : (x, y) ∈ ps := hxy ▸ getD_mem hk'
    refine Zy fun N3 hN3 => ?_
    simp (maxSteps := 2000000) only [s115, ↓Za, ↓Zo, ↓Zr, ↓Ze, ↓Zi, ↓Zs, ↓Zf, ↓Zl, ↓Zg, ↓Zc, ↓Zb, ↓vdn, vup, Zh, Zk, Zm, Zn, Zj, List.map_cons, List.map_nil, cond_true, cond_false, aop, Zv, Zq, Zp, ev, sput, Zt, Zz, Yb, unK, Zd, Zw, Nat.reduceBEq, Nat.reduceAdd, Int.reduceBEq, Int.reduceBNe, Int.reduceLT, Zu, Ya, tup, tyf, hin]
    refine hN3 [(0, v), (1, .func (.func g) #[] cap), (4, .int .i64 0), (6, v), (7, Zx ps.length), (8, Zx (k : Nat)), (9, .bool true)] _ _ ?_ (by simp (maxSteps := 2000000) only [↓Za, ↓Zo, ↓Zr, ↓Ze, ↓Zi, ↓Zs, ↓Zf, ↓Zl, ↓Zg, ↓Zc, ↓Zb, ↓vdn, vup, Zh, Zk, Zm, Zn, Zj, List.map_cons, List.map_nil, cond_true, cond_false, aop, Zv, Zq, Zp, ev, sput, Zt, Zz, Yb, unK, Zd, Zw, Nat.reduceBEq, Nat.reduceAdd, Int.reduceBEq, Int.reduceBNe, Int.reduceLT, Zu, Ya, tup, tyf])
    clear hN3
    try clear N3
    refine Zy fun N4 hN4 => ?_
    simp (maxSteps := 2000000) only [s115, ↓Za, ↓Zo, ↓Zr, ↓Ze, ↓Zi, ↓Zs, ↓Zf, ↓Zl, ↓Zg, ↓Zc, ↓Zb, ↓vdn, vup, Zh, Zk, Zm, Zn, Zj, List.map_cons, List.map_nil, cond_true, cond_false, aop, Zv, Zq, Zp, ev, sput, Zt, Zz, Yb, unK, Zd, Zw, Nat.reduceBEq, Nat.reduceAdd, Int.reduceBEq, Int.reduceBNe, Int.reduceLT, Zu, Ya, tup, tyf]
    refine hN4 [(0, v), (1, .func (.func g) #[] cap), (4, .int .i64 0), (6, v), (7, Zx ps.length), (8, Zx (k : Nat))] _ _ ?_ (by simp (maxSteps := 2000000) only [↓Za, ↓Zo, ↓Zr, ↓Ze, ↓Zi, ↓Zs, ↓Zf, ↓Zl, ↓Zg, ↓Zc, ↓Zb, ↓vdn, vup, Zh, Zk, Zm, Zn, Zj, List.map_cons, List.map_nil, cond_true, cond_false, aop, Zv, Zq, Zp, ev, sput, Zt, Zz, Yb, unK, Zd, Zw, Nat.reduceBEq, Nat.reduceAdd, Int.reduceBEq, Int.reduceBNe, Int.reduceLT, Zu, Ya, tup, tyf])
    clear hN4
    try clear N4
    refine Ye fun B hB => ?_
    refine Yf ?_
    refine Zy fun N5 hN5 => ?_
    simp (maxSteps := 2000000) only [s115, ↓Za, ↓Zo, ↓Zr, ↓Ze, ↓Zi, ↓Zs, ↓Zf, ↓Zl, ↓Zg, ↓Zc, ↓Zb, ↓vdn, vup, Zh, Zk, Zm, Zn, Zj, List.map_cons, List.map_nil, cond_true, cond_false, aop, Zv, Zq, Zp, ev, sput, Zt, Zz, Yb, unK, Zd, Zw, Nat.reduceBEq, Nat.reduceAdd, Int.reduceBEq, Int.reduceBNe, Int.reduceLT, Zu, Ya, tup, tyf]
    refine hN5 [(0, v), (1, .func (.func g) #[] cap), (4, .int .i64 0), (5, Zx (k : Nat)), (6, v), (7, Zx ps.length), (8, Zx (k : Nat))] _ _ ?_ (by simp (maxSteps := 2000000) only [↓Za, ↓Zo, ↓Zr, ↓Ze, ↓Zi, ↓Zs, ↓Zf, ↓Zl, ↓Zg, ↓Zc, ↓Zb, ↓vdn, vup, Zh, Zk, Zm, Zn, Zj, List.map_cons, List.map_nil, cond_true, cond_false, aop, Zv, Zq, Zp, ev, sput, Zt, Zz, Yb, unK, Zd, Zw, Nat.reduceBEq, Nat.reduceAdd, Int.reduceBEq, Int.reduceBNe, Int.reduceLT, Zu, Ya, tup, tyf])
    clear hN5
    try clear N5
    refine Zy fun N6 hN6 => ?_
    simp (maxSteps := 2000000) only [s115, ↓Za, ↓Zo, ↓Zr, ↓Ze, ↓Zi, ↓Zs, ↓Zf, ↓Zl, ↓Zg, ↓Zc, ↓Zb, ↓vdn, vup, Zh, Zk, Zm, Zn, Zj, List.map_cons, List.map_nil, cond_true, cond_false, aop, Zv, Zq, Zp, ev, sput, Zt, Zz, Yb, unK, Zd, Zw, Nat.reduceBEq, Nat.reduceAdd, Int.reduceBEq, Int.reduceBNe, Int.reduceLT, Zu, Ya, tup, tyf, hv.idx el_30 esz_92 hk', hv.load shp_92 hk', hxy, Yr, List.nil_append, List.append_nil]
    refine (show Xa prog g ([.agg #[Zx x, Zx y]] ++ cap.toList) h (.bool (f (x, y))) from hc h (Ext.refl _ _) _ hmem).mono ?_
    rintro _ h ⟨rfl, rfl⟩
    refine hN6 [(0, v), (1, .func (.func g) #[] cap), (4, .int .i64 0), (5, Zx (k : Nat)), (6, v), (7, Zx ps.length), (8, Zx (k : Nat)), (16, .bool (f (x, y)))] _ _ ?_ (by simp (maxSteps := 2000000) only [↓Za, ↓Zo, ↓Zr, ↓Ze, ↓Zi, ↓Zs, ↓Zf, ↓Zl, ↓Zg, ↓Zc, ↓Zb, ↓vdn, vup, Zh, Zk, Zm, Zn, Zj, List.map_cons, List.map_nil, cond_true, cond_false, aop, Zv, Zq, Zp, ev, sput, Zt, Zz, Yb, unK, Zd, Zw, Nat.reduceBEq, Nat.reduceAdd, Int.reduceBEq, Int.reduceBNe, Int.reduceLT, Zu, Ya, tup, tyf])
    clear hN6
    try clear N6
    refine Yd ?_
    cases hf : f (x, y) with
    | true =>
      simp (maxSteps := 2000000) only [s115, ↓Za, ↓Zo, ↓Zr, ↓Ze, ↓Zi, ↓Zs, ↓Zf, ↓Zl, ↓Zg, ↓Zc, ↓Zb, ↓vdn, vup, Zh, Zk, Zm, Zn, Zj, List.map_cons, List.map_nil, cond_true, cond_false, aop, Zv, Zq, Zp, ev, sput, Zt, Zz, Yb, unK, Zd, Zw, Nat.reduceBEq, Nat.reduceAdd, Int.reduceBEq, Int.reduceBNe, Int.reduceLT, Zu, Ya, tup, tyf]
      refine hQ2 _ _ _ (hQ _ _ _ ?_)
      simp (maxSteps := 2000000) only [s115, ↓Za, ↓Zo, ↓Zr, ↓Ze, ↓Zi, ↓Zs, ↓Zf, ↓Zl, ↓Zg, ↓Zc, ↓Zb, ↓vdn, vup, Zh, Zk, Zm, Zn, Zj, List.map_cons, List.map_nil, cond_true, cond_false, aop, Zv, Zq, Zp, ev, sput, Zt, Zz, Yb, unK, Zd, Zw, Nat.reduceBEq, Nat.reduceAdd, Int.reduceBEq, Int.reduceBNe, Int.reduceLT, Zu, Ya, tup, tyf]
      exact ⟨_, rfl, by rw [show ps.any f = true from List.any_eq_true.2 ⟨_, hmem, hf⟩]; simp⟩
    | false =>
      simp (maxSteps := 2000000) only [s115, ↓Za, ↓Zo, ↓Zr, ↓Ze, ↓Zi, ↓Zs, ↓Zf, ↓Zl, ↓Zg, ↓Zc, ↓Zb, ↓vdn, vup, Zh, Zk, Zm, Zn, Zj, List.map_cons, List.map_nil, cond_true, cond_false, aop, Zv, Zq, Zp, ev, sput, Zt, Zz, Yb, unK, Zd, Zw, Nat.reduceBEq, Nat.reduceAdd, Int.reduceBEq, Int.reduceBNe, Int.reduceLT, Zu, Ya, tup, tyf]
      refine hB [(0, v), (1, .func (.func g) #[] cap), (4, .int .i64 0), (6, v), (7, Zx ps.length), (8, Zx (k : Nat))] _ _ ?_ (by simp (maxSteps := 2000000) only [↓Za, ↓Zo, ↓Zr, ↓Ze, ↓Zi, ↓Zs, ↓Zf, ↓Zl, ↓Zg, ↓Zc, ↓Zb, ↓vdn, vup, Zh, Zk, Zm, Zn, Zj, List.map_cons, List.map_nil, cond_true, cond_false, aop, Zv, Zq, Zp, ev, sput, Zt, Zz, Yb, unK, Zd, Zw, Nat.reduceBEq, Nat.reduceAdd, Int.reduceBEq, Int.reduceBNe, Int.reduceLT, Zu, Ya, tup, tyf])
      clear hB
      try clear B
      refine Yd ?_
      simp (maxSteps := 2000000) only [s115, ↓Za, ↓Zo, ↓Zr, ↓Ze, ↓Zi, ↓Zs, ↓Zf, ↓Zl, ↓Zg, ↓Zc, ↓Zb, ↓vdn, vup, Zh, Zk, Zm, Zn, Zj, List.map_cons, List.map_nil, cond_true, cond_false, aop, Zv, Zq, Zp, ev, sput, Zt, Zz, Yb, unK, Zd, Zw, Nat.reduceBEq, Nat.reduceAdd, Int.reduceBEq, Int.reduceBNe, Int.reduceLT, Zu, Ya, tup, tyf, add1 (show k < 9223372036854775807 by omega)]
      refine hQ2 _ _ _ ⟨k + 1, ⟨hk', fun p hp => ?_⟩, by omega, by simp (maxSteps := 2000000) only [↓Za, ↓Zo, ↓Zr, ↓Ze, ↓Zi, ↓Zs, ↓Zf, ↓Zl, ↓Zg, ↓Zc, ↓Zb, ↓vdn, vup, Zh, Zk, Zm, Zn, Zj, List.map_cons, List.map_nil, cond_true, cond_false, aop, Zv, Zq, Zp, ev, sput, Zt, Zz, Yb, unK, Zd, Zw, Nat.reduceBEq, Nat.reduceAdd, Int.reduceBEq, Int.reduceBNe, Int.reduceLT, Zu, Ya, tup, tyf], rfl⟩
      rw [take_snoc (d := ((0, 0) : Int × Int)) hk', hxy] at hp
      rcases List.mem_append.1 hp with h3 | h3
      · exact hall p h3
      · simp at h3; subst h3; exact hf
  · obtain rfl : k = ps.length := by omega
    refine Zy fun N7 hN7 => ?_
    simp (maxSteps := 2000000) only [s115, ↓Za, ↓Zo, ↓Zr, ↓Ze, ↓Zi, ↓Zs, ↓Zf, ↓Zl, ↓Zg, ↓Zc, ↓Zb, ↓vdn, vup, Zh, Zk, Zm, Zn, Zj, List.map_cons, List.map_nil, cond_true, cond_false, aop, Zv, Zq, Zp, ev, sput, Zt, Zz, Yb, unK, Zd, Zw, Nat.reduceBEq, Nat.reduceAdd, Int.reduceBEq, Int.reduceBNe, Int.reduceLT, Zu, Ya, tup, tyf, hin]
    refine hN7 [(0, v), (1, .func (.func g) #[] cap), (4, .int .i64 0), (6, v), (7, Zx ps.length), (8, Zx ps.length), (9, .bool false)] _ _ ?_ (by simp (maxSteps := 2000000) only [↓Za, ↓Zo, ↓Zr, ↓Ze, ↓Zi, ↓Zs, ↓Zf, ↓Zl, ↓Zg, ↓Zc, ↓Zb, ↓vdn, vup, Zh, Zk, Zm, Zn, Zj, List.map_cons, List.map_nil, cond_true, cond_false, aop, Zv, Zq, Zp, ev, sput, Zt, Zz, Yb, unK, Zd, Zw, Nat.reduceBEq, Nat.reduceAdd, Int.reduceBEq, Int.reduceBNe, Int.reduceLT, Zu, Ya, tup, tyf])
    clear hN7
    try clear N7
    refine Zy fun N8 hN8 => ?_
    simp (maxSteps := 2000000) only [s115, ↓Za, ↓Zo, ↓Zr, ↓Ze, ↓Zi, ↓Zs, ↓Zf, ↓Zl, ↓Zg, ↓Zc, ↓Zb, ↓vdn, vup, Zh, Zk, Zm, Zn, Zj, List.map_cons, List.map_nil, cond_true, cond_false, aop, Zv, Zq, Zp, ev, sput, Zt, Zz, Yb, unK, Zd, Zw, Nat.reduceBEq, Nat.reduceAdd, Int.reduceBEq, Int.reduceBNe, Int.reduceLT, Zu, Ya, tup, tyf]
    refine hQ2 _ _ _ (hQ _ _ _ ?_)
    simp (maxSteps := 2000000) only [s115, ↓Za, ↓Zo, ↓Zr, ↓Ze, ↓Zi, ↓Zs, ↓Zf, ↓Zl, ↓Zg, ↓Zc, ↓Zb, ↓vdn, vup, Zh, Zk, Zm, Zn, Zj, List.map_cons, List.map_nil, cond_true, cond_false, aop, Zv, Zq, Zp, ev, sput, Zt, Zz, Yb, unK, Zd, Zw, Nat.reduceBEq, Nat.reduceAdd, Int.reduceBEq, Int.reduceBNe, Int.reduceLT, Zu, Ya, tup, tyf, if_true]
    refine hZ [(0, v), (1, .func (.func g) #[] cap), (4, .int .i64 0), (6, v), (7, Zx ps.length), (8, Zx ps.length), (9, .bool false)] _ _ ?_ (by simp (maxSteps := 2000000) only [↓Za, ↓Zo, ↓Zr, ↓Ze, ↓Zi, ↓Zs, ↓Zf, ↓Zl, ↓Zg, ↓Zc, ↓Zb, ↓vdn, vup, Zh, Zk, Zm, Zn, Zj, List.map_cons, List.map_nil, cond_true, cond_false, aop, Zv, Zq, Zp, ev, sput, Zt, Zz, Yb, unK, Zd, Zw, Nat.reduceBEq, Nat.reduceAdd, Int.reduceBEq, Int.reduceBNe, Int.reduceLT, Zu, Ya, tup, tyf])
    clear hZ
    try clear Z
    refine Yd ?_
    simp (maxSteps := 2000000) only [s115, ↓Za, ↓Zo, ↓Zr, ↓Ze, ↓Zi, ↓Zs, ↓Zf, ↓Zl, ↓Zg, ↓Zc, ↓Zb, ↓vdn, vup, Zh, Zk, Zm, Zn, Zj, List.map_cons, List.map_nil, cond_true, cond_false, aop, Zv, Zq, Zp, ev, sput, Zt, Zz, Yb, unK, Zd, Zw, Nat.reduceBEq, Nat.reduceAdd, Int.reduceBEq, Int.reduceBNe, Int.reduceLT, Zu, Ya, tup, tyf]
    rw [List.take_length] at hall
    exact ⟨_, rfl, by rw [show ps.any f = false from List.any_eq_false.2 fun p hp => by simp [hall p hp]]; decide⟩

theorem s98_callW [Tabs Try.prog] {args : List Value} {h : Yc} {Q : Value → Yc → Prop} (hsz : args.length ≤ 9) (hk : AWS Try.prog 9 s98 (Zu Try.prog [.tmp 4] Q) (Zp 0 args) h) : ACall Try.prog 98 args h Q :=
  Yx Try.func98 rfl (enters_of Try.func98 (by kernel_rfl) rfl) rfl rfl (by decide) s98_strip s98_ok hsz hk
theorem hasB_call [Tabs prog] {h : Yc} {v : Value} {ps : List (Int × Int)} {g : FuncId} {cap : Array Value} {f : Int × Int → Bool} (hv : PairSl h v ps) (hl : ps.length < 9223372036854775808)
    (hc : ∀ h', Ext (fun _ => False) h h' → ∀ p ∈ ps, Xa prog g ([.agg #[Zx p.1, Zx p.2]] ++ cap.toList) h' (.bool (f p))) : Xa prog 98 [v, .func (.func g) #[] cap] h (.bool (ps.any f)) := by
  refine s98_callW (by simp) ?_
  refine Yd ?_
  simp (maxSteps := 2000000) only [s98, ↓Za, ↓Zo, ↓Zr, ↓Ze, ↓Zi, ↓Zs, ↓Zf, ↓Zl, ↓Zg, ↓Zc, ↓Zb, ↓vdn, vup, Zh, Zk, Zm, Zn, Zj, List.map_cons, List.map_nil, cond_true, cond_false, aop, Zv, Zq, Zp, ev, sput, Zt, Zz, Yb, unK, Zd, Zw, Nat.reduceBEq, Nat.reduceAdd, Int.reduceBEq, Int.reduceBNe, Int.reduceLT, Zu, Ya, tup, tyf, Yr, List.nil_append, List.append_nil, List.toList_toArray, List.cons_append]
  refine (idxB_call hv hl hc).mono ?_
  rintro _ h1 ⟨rfl, i, rfl, hi⟩
  simp (maxSteps := 2000000) only [s98, ↓Za, ↓Zo, ↓Zr, ↓Ze, ↓Zi, ↓Zs, ↓Zf, ↓Zl, ↓Zg, ↓Zc, ↓Zb, ↓vdn, vup, Zh, Zk, Zm, Zn, Zj, List.map_cons, List.map_nil, cond_true, cond_false, aop, Zv, Zq, Zp, ev, sput, Zt, Zz, Yb, unK, Zd, Zw, Nat.reduceBEq, Nat.reduceAdd, Int.reduceBEq, Int.reduceBNe, Int.reduceLT, Zu, Ya, tup, tyf, ge_iff_le, hi]

theorem s99_callW [Tabs Try.prog] {args : List Value} {h : Yc} {Q : Value → Yc → Prop} (hsz : args.length ≤ 9) (hk : AWS Try.prog 9 s99 (Zu Try.prog [.tmp 3] Q) (Zp 0 args) h) : ACall Try.prog 99 args h Q :=
  Yx Try.func99 rfl (enters_of Try.func99 (by kernel_rfl) rfl) rfl rfl (by decide) s99_strip s99_ok hsz hk
theorem sameB_call [Tabs prog] {h : Yc} {b : Nat} {x y e c : Int} (hb : h[b]? = some (bB e c)) : Xa prog 99 [.agg #[Zx x, Zx y], .pointer (some ⟨b, 0, none⟩)] h (.bool (x == e)) := by
  refine ACall.forget (Low.bool _) ?_
  refine s99_callW (by simp) ?_
  refine Yd ?_
  simp (maxSteps := 2000000) only [s99, ↓Za, ↓Zo, ↓Zr, ↓Ze, ↓Zi, ↓Zs, ↓Zf, ↓Zl, ↓Zg, ↓Zc, ↓Zb, ↓vdn, vup, Zh, Zk, Zm, Zn, Zj, List.map_cons, List.map_nil, cond_true, cond_false, aop, Zv, Zq, Zp, ev, sput, Zt, Zz, Yb, unK, Zd, Zw, Nat.reduceBEq, Nat.reduceAdd, Int.reduceBEq, Int.reduceBNe, Int.reduceLT, Zu, Ya, tup, tyf, boxB, Xe, bA0, loadB0 (Xb h _), loadB0 (Wa hb _)]
  exact Ext.app _ _ _

/-- A bet on n worlds. -/
def okB (n : Nat) (p : Int × Int) : Bool := decide (0 ≤ p.1) && (decide (p.1 < 2 ^ n) && (decide (0 ≤ p.2) && decide (p.2 ≤ 12)))
/-- Each is a bet, none ahead is on the same event. -/
def validTo (n : Nat) (l : List (Int × Int)) (k : Nat) : Bool := (List.range k).all fun i => okB n (l.getD i (0, 0)) && !(l.take i).any fun x => x.1 == (l.getD i (0, 0)).1
def Vo (n : Int) (l : List (Int × Int)) : Bool := decide (2 ≤ n) && (decide (n ≤ 5) && (decide (1 ≤ l.length) && (decide (l.length ≤ 6) && validTo n.toNat l l.length)))
theorem validTo_succ (n : Nat) (l : List (Int × Int)) (k : Nat) : validTo n l (k + 1) = (validTo n l k && (okB n (l.getD k (0, 0)) && !(l.take k).any fun x => x.1 == (l.getD k (0, 0)).1)) := by
  rw [validTo, List.range_succ, List.all_append]; simp [validTo]
theorem validTo_false {n : Nat} {l : List (Int × Int)} {k : Nat} (hk : k < l.length) (h : (okB n (l.getD k (0, 0)) && !(l.take k).any fun x => x.1 == (l.getD k (0, 0)).1) = false) : validTo n l l.length = false := by
  rw [validTo, List.all_eq_false]
  exact ⟨k, List.mem_range.2 hk, by simp only [h]; decide⟩

set_option maxHeartbeats 2000000
theorem s58_callW [Tabs Try.prog] {args : List Value} {h : Yc} {Q : Value → Yc → Prop} (hsz : args.length ≤ 61) (hk : AWS Try.prog 61 s58 (Zu Try.prog [.tmp 2] Q) (Zp 0 args) h) : ACall Try.prog 58 args h Q :=
  Yx Try.func58 rfl (enters_of Try.func58 (by kernel_rfl) rfl) rfl rfl (by decide) s58_strip s58_ok hsz hk
theorem valid_call [Tabs prog] {h : Yc} {n : Int} {v : Value} {l : List (Int × Int)} (hv : PairSl h v l) (hl : l.length < 9223372036854775808) : Xa prog 58 [.agg #[Zx n, v]] h (.bool (Vo n l)) := by
  obtain ⟨H, hH⟩ : ∃ H, H = h ++ [Blk.cells [Zx n, v] 86 false] := ⟨_, rfl⟩
  have hE : Ext (fun _ => False) h H := by rw [hH]; exact Ext.app _ _ _
  have b1 : H[h.length]? = some (.cells [Zx n, v] 86 false) := by rw [hH]; exact Xb _ _
  have hvH := hv.ext hE
  refine ACall.forget (Low.bool _) ?_
  refine s58_callW (by simp) ?_
  simp only [s58]
  refine Zy fun N9 hN9 => ?_
  simp (maxSteps := 2000000) only [s58, ↓Za, ↓Zo, ↓Zr, ↓Ze, ↓Zi, ↓Zs, ↓Zf, ↓Zl, ↓Zg, ↓Zc, ↓Zb, ↓vdn, vup, Zh, Zk, Zm, Zn, Zj, List.map_cons, List.map_nil, cond_true, cond_false, aop, Zv, Zq, Zp, ev, sput, Zt, Zz, Yb, unK, Zd, Zw, Nat.reduceBEq, Nat.reduceAdd, Int.reduceBEq, Int.reduceBNe, Int.reduceLT, Zu, Ya, tup, tyf, boxT, Xe]
  rw [← hH]
  refine hN9 [(1, .pointer (some ⟨h.length, 0, none⟩)), (2, .bool false)] _ _ ?_ (by simp (maxSteps := 2000000) only [↓Za, ↓Zo, ↓Zr, ↓Ze, ↓Zi, ↓Zs, ↓Zf, ↓Zl, ↓Zg, ↓Zc, ↓Zb, ↓vdn, vup, Zh, Zk, Zm, Zn, Zj, List.map_cons, List.map_nil, cond_true, cond_false, aop, Zv, Zq, Zp, ev, sput, Zt, Zz, Yb, unK, Zd, Zw, Nat.reduceBEq, Nat.reduceAdd, Int.reduceBEq, Int.reduceBNe, Int.reduceLT, Zu, Ya, tup, tyf])
  clear hN9
  try clear N9
  by_cases h1 : n < 2
  · refine Yd ?_
    simp (maxSteps := 2000000) only [s58, ↓Za, ↓Zo, ↓Zr, ↓Ze, ↓Zi, ↓Zs, ↓Zf, ↓Zl, ↓Zg, ↓Zc, ↓Zb, ↓vdn, vup, Zh, Zk, Zm, Zn, Zj, List.map_cons, List.map_nil, cond_true, cond_false, aop, Zv, Zq, Zp, ev, sput, Zt, Zz, Yb, unK, Zd, Zw, Nat.reduceBEq, Nat.reduceAdd, Int.reduceBEq, Int.reduceBNe, Int.reduceLT, Zu, Ya, tup, tyf, tA0, loadT0 b1, h1]
    rw [Vo, show decide (2 ≤ n) = false by simp; omega, Bool.false_and]
    exact ⟨rfl, hE⟩
  by_cases h2 : n > 5
  · refine Yd ?_
    simp (maxSteps := 2000000) only [s58, ↓Za, ↓Zo, ↓Zr, ↓Ze, ↓Zi, ↓Zs, ↓Zf, ↓Zl, ↓Zg, ↓Zc, ↓Zb, ↓vdn, vup, Zh, Zk, Zm, Zn, Zj, List.map_cons, List.map_nil, cond_true, cond_false, aop, Zv, Zq, Zp, ev, sput, Zt, Zz, Yb, unK, Zd, Zw, Nat.reduceBEq, Nat.reduceAdd, Int.reduceBEq, Int.reduceBNe, Int.reduceLT, Zu, Ya, tup, tyf, tA0, loadT0 b1, h1, h2]
    rw [Vo, show decide (n ≤ 5) = false by simp; omega, Bool.false_and, Bool.and_false]
    exact ⟨rfl, hE⟩
  by_cases h3 : (l.length : Int) < 1
  · refine Yd ?_
    simp (maxSteps := 2000000) only [s58, ↓Za, ↓Zo, ↓Zr, ↓Ze, ↓Zi, ↓Zs, ↓Zf, ↓Zl, ↓Zg, ↓Zc, ↓Zb, ↓vdn, vup, Zh, Zk, Zm, Zn, Zj, List.map_cons, List.map_nil, cond_true, cond_false, aop, Zv, Zq, Zp, ev, sput, Zt, Zz, Yb, unK, Zd, Zw, Nat.reduceBEq, Nat.reduceAdd, Int.reduceBEq, Int.reduceBNe, Int.reduceLT, Zu, Ya, tup, tyf, tA0, tA1, loadT0 b1, loadT1 b1, h1, h2, hvH.len, h3]
    rw [Vo, show decide (1 ≤ l.length) = false by rw [decide_eq_false_iff_not]; omega, Bool.false_and, Bool.and_false, Bool.and_false]
    exact ⟨rfl, hE⟩
  by_cases h4 : (l.length : Int) > 6
  · refine Yd ?_
    simp (maxSteps := 2000000) only [s58, ↓Za, ↓Zo, ↓Zr, ↓Ze, ↓Zi, ↓Zs, ↓Zf, ↓Zl, ↓Zg, ↓Zc, ↓Zb, ↓vdn, vup, Zh, Zk, Zm, Zn, Zj, List.map_cons, List.map_nil, cond_true, cond_false, aop, Zv, Zq, Zp, ev, sput, Zt, Zz, Yb, unK, Zd, Zw, Nat.reduceBEq, Nat.reduceAdd, Int.reduceBEq, Int.reduceBNe, Int.reduceLT, Zu, Ya, tup, tyf, tA0, tA1, loadT0 b1, loadT1 b1, h1, h2, hvH.len, h3, h4]
    rw [Vo, show decide (l.length ≤ 6) = false by simp; omega, Bool.false_and, Bool.and_false, Bool.and_false, Bool.and_false]
    exact ⟨rfl, hE⟩
  obtain ⟨m, rfl⟩ : ∃ m : Nat, n = m := ⟨n.toNat, by omega⟩
  have hval : Vo m l = validTo m l l.length := by
    rw [Vo, show decide ((2 : Int) ≤ m) = true by simp; omega, show decide ((m : Int) ≤ 5) = true by simp; omega, show decide (1 ≤ l.length) = true by rw [decide_eq_true_eq]; omega, show decide (l.length ≤ 6) = true by simp; omega]
    simp
  rw [hval]
  have hpm : (2 : Nat) ^ m ≤ 2 ^ 5 := Nat.pow_le_pow_right (by decide) (by omega)
  refine Ye fun Y hY => ?_
  refine Zy fun N10 hN10 => ?_
  simp (maxSteps := 2000000) only [s58, ↓Za, ↓Zo, ↓Zr, ↓Ze, ↓Zi, ↓Zs, ↓Zf, ↓Zl, ↓Zg, ↓Zc, ↓Zb, ↓vdn, vup, Zh, Zk, Zm, Zn, Zj, List.map_cons, List.map_nil, cond_true, cond_false, aop, Zv, Zq, Zp, ev, sput, Zt, Zz, Yb, unK, Zd, Zw, Nat.reduceBEq, Nat.reduceAdd, Int.reduceBEq, Int.reduceBNe, Int.reduceLT, Zu, Ya, tup, tyf, tA0, tA1, loadT0 b1, loadT1 b1, h1, h2, hvH.len, h3, h4]
  refine hN10 [(1, .pointer (some ⟨h.length, 0, none⟩)), (2, .bool false), (24, .bool false)] _ _ ?_ (by simp (maxSteps := 2000000) only [↓Za, ↓Zo, ↓Zr, ↓Ze, ↓Zi, ↓Zs, ↓Zf, ↓Zl, ↓Zg, ↓Zc, ↓Zb, ↓vdn, vup, Zh, Zk, Zm, Zn, Zj, List.map_cons, List.map_nil, cond_true, cond_false, aop, Zv, Zq, Zp, ev, sput, Zt, Zz, Yb, unK, Zd, Zw, Nat.reduceBEq, Nat.reduceAdd, Int.reduceBEq, Int.reduceBNe, Int.reduceLT, Zu, Ya, tup, tyf])
  clear hN10
  try clear N10
  refine Xs rfl ?_
  refine Yd ?_
  simp (maxSteps := 2000000) only [s58, ↓Za, ↓Zo, ↓Zr, ↓Ze, ↓Zi, ↓Zs, ↓Zf, ↓Zl, ↓Zg, ↓Zc, ↓Zb, ↓vdn, vup, Zh, Zk, Zm, Zn, Zj, List.map_cons, List.map_nil, cond_true, cond_false, aop, Zv, Zq, Zp, ev, sput, Zt, Zz, Yb, unK, Zd, Zw, Nat.reduceBEq, Nat.reduceAdd, Int.reduceBEq, Int.reduceBNe, Int.reduceLT, Zu, Ya, tup, tyf]
  refine hY [(1, .pointer (some ⟨h.length, 0, none⟩)), (2, .bool false), (24, .bool false)] _ _ ?_ (by simp (maxSteps := 2000000) only [↓Za, ↓Zo, ↓Zr, ↓Ze, ↓Zi, ↓Zs, ↓Zf, ↓Zl, ↓Zg, ↓Zc, ↓Zb, ↓vdn, vup, Zh, Zk, Zm, Zn, Zj, List.map_cons, List.map_nil, cond_true, cond_false, aop, Zv, Zq, Zp, ev, sput, Zt, Zz, Yb, unK, Zd, Zw, Nat.reduceBEq, Nat.reduceAdd, Int.reduceBEq, Int.reduceBNe, Int.reduceLT, Zu, Ya, tup, tyf])
  clear hY
  try clear Y
  refine Ye fun Z hZ => ?_
  refine Zy fun N11 hN11 => ?_
  simp (maxSteps := 2000000) only [s58, ↓Za, ↓Zo, ↓Zr, ↓Ze, ↓Zi, ↓Zs, ↓Zf, ↓Zl, ↓Zg, ↓Zc, ↓Zb, ↓vdn, vup, Zh, Zk, Zm, Zn, Zj, List.map_cons, List.map_nil, cond_true, cond_false, aop, Zv, Zq, Zp, ev, sput, Zt, Zz, Yb, unK, Zd, Zw, Nat.reduceBEq, Nat.reduceAdd, Int.reduceBEq, Int.reduceBNe, Int.reduceLT, Zu, Ya, tup, tyf, tA1, loadT1 b1, hvH.len]
  refine hN11 [(1, .pointer (some ⟨h.length, 0, none⟩)), (2, .bool false), (24, .bool false), (26, v), (27, Zx l.length), (28, .int .i64 0)] _ _ ?_ (by simp (maxSteps := 2000000) only [↓Za, ↓Zo, ↓Zr, ↓Ze, ↓Zi, ↓Zs, ↓Zf, ↓Zl, ↓Zg, ↓Zc, ↓Zb, ↓vdn, vup, Zh, Zk, Zm, Zn, Zj, List.map_cons, List.map_nil, cond_true, cond_false, aop, Zv, Zq, Zp, ev, sput, Zt, Zz, Yb, unK, Zd, Zw, Nat.reduceBEq, Nat.reduceAdd, Int.reduceBEq, Int.reduceBNe, Int.reduceLT, Zu, Ya, tup, tyf])
  clear hN11
  try clear N11
  refine Yf ?_
  refine Yh fun Q hQ => ?_
  refine Yv (γ := Nat × Yc) (fun s => s.1 ≤ l.length ∧ validTo m l s.1 = true ∧ Ext (fun _ => False) H s.2)
    (fun s => ([(1, .pointer (some ⟨h.length, 0, none⟩)), (2, .bool false), (24, .bool false), (26, v), (27, Zx l.length), (28, Zx (s.1 : Nat))], s.2)) (fun s => l.length - s.1) (0, H) ⟨Nat.zero_le _, rfl, Ext.refl _ _⟩ (by simp (maxSteps := 2000000) only [↓Za, ↓Zo, ↓Zr, ↓Ze, ↓Zi, ↓Zs, ↓Zf, ↓Zl, ↓Zg, ↓Zc, ↓Zb, ↓vdn, vup, Zh, Zk, Zm, Zn, Zj, List.map_cons, List.map_nil, cond_true, cond_false, aop, Zv, Zq, Zp, ev, sput, Zt, Zz, Yb, unK, Zd, Zw, Nat.reduceBEq, Nat.reduceAdd, Int.reduceBEq, Int.reduceBNe, Int.reduceLT, Zu, Ya, tup, tyf, Int.natCast_zero]) rfl ?_
  rintro ⟨k, hp⟩ ⟨hk, hall, hEp⟩
  simp only at hk hall hEp
  refine Yh fun Q2 hQ2 => ?_
  simp only [l58_0]
  by_cases hin : (k : Int) < l.length
  · have hk' : k < l.length := by omega
    have hvp := hvH.ext hEp
    obtain ⟨⟨x, y⟩, hxy⟩ : ∃ p, l.getD k (0, 0) = p := ⟨_, rfl⟩
    have hmem : (x, y) ∈ l := hxy ▸ getD_mem hk'
    obtain ⟨G, hG⟩ : ∃ G, G = hp ++ [bB x y] := ⟨_, rfl⟩
    have c4 : G[hp.length]? = some (bB x y) := by rw [hG]; exact Xb _ _
    have hEG : Ext (fun _ => False) H G := by rw [hG]; exact hEp.trans (Ext.app _ _ _)
    have c1 : G[h.length]? = some (.cells [Zx (m : Int), v] 86 false) := (hEG.2 _ (Yp b1) id).trans b1
    have hvG := hvH.ext hEG
    have vfalse : (okB m (x, y) && !(l.take k).any fun z => z.1 == x) = false → validTo m l l.length = false := fun hf => validTo_false hk' (by rw [hxy]; exact hf)
    have ret0 : (okB m (x, y) && !(l.take k).any fun z => z.1 == x) = false → ∀ e, sget e 2 = .bool false → Q2 .ret e G := by
      intro hf e he
      refine hQ2 _ _ _ (hQ _ _ _ ?_)
      simp (maxSteps := 2000000) only [s58, ↓Za, ↓Zo, ↓Zr, ↓Ze, ↓Zi, ↓Zs, ↓Zf, ↓Zl, ↓Zg, ↓Zc, ↓Zb, ↓vdn, vup, Zh, Zk, Zm, Zn, Zj, List.map_cons, List.map_nil, cond_true, cond_false, aop, Zv, Zq, Zp, ev, sput, Zt, Zz, Yb, unK, Zd, Zw, Nat.reduceBEq, Nat.reduceAdd, Int.reduceBEq, Int.reduceBNe, Int.reduceLT, Zu, Ya, tup, tyf, he, vfalse hf]
      exact hE.trans hEG
    have hsh : shlV .i64 1 (m : Int) = 2 ^ m := shl1 (by omega)
    refine Zy fun N12 hN12 => ?_
    simp (maxSteps := 2000000) only [s58, ↓Za, ↓Zo, ↓Zr, ↓Ze, ↓Zi, ↓Zs, ↓Zf, ↓Zl, ↓Zg, ↓Zc, ↓Zb, ↓vdn, vup, Zh, Zk, Zm, Zn, Zj, List.map_cons, List.map_nil, cond_true, cond_false, aop, Zv, Zq, Zp, ev, sput, Zt, Zz, Yb, unK, Zd, Zw, Nat.reduceBEq, Nat.reduceAdd, Int.reduceBEq, Int.reduceBNe, Int.reduceLT, Zu, Ya, tup, tyf, hin]
    refine hN12 [(1, .pointer (some ⟨h.length, 0, none⟩)), (2, .bool false), (24, .bool false), (26, v), (27, Zx l.length), (28, Zx (k : Nat)), (29, .bool true)] _ _ ?_ (by simp (maxSteps := 2000000) only [↓Za, ↓Zo, ↓Zr, ↓Ze, ↓Zi, ↓Zs, ↓Zf, ↓Zl, ↓Zg, ↓Zc, ↓Zb, ↓vdn, vup, Zh, Zk, Zm, Zn, Zj, List.map_cons, List.map_nil, cond_true, cond_false, aop, Zv, Zq, Zp, ev, sput, Zt, Zz, Yb, unK, Zd, Zw, Nat.reduceBEq, Nat.reduceAdd, Int.reduceBEq, Int.reduceBNe, Int.reduceLT, Zu, Ya, tup, tyf])
    clear hN12
    try clear N12
    refine Zy fun N13 hN13 => ?_
    simp (maxSteps := 2000000) only [s58, ↓Za, ↓Zo, ↓Zr, ↓Ze, ↓Zi, ↓Zs, ↓Zf, ↓Zl, ↓Zg, ↓Zc, ↓Zb, ↓vdn, vup, Zh, Zk, Zm, Zn, Zj, List.map_cons, List.map_nil, cond_true, cond_false, aop, Zv, Zq, Zp, ev, sput, Zt, Zz, Yb, unK, Zd, Zw, Nat.reduceBEq, Nat.reduceAdd, Int.reduceBEq, Int.reduceBNe, Int.reduceLT, Zu, Ya, tup, tyf]
    refine hN13 [(1, .pointer (some ⟨h.length, 0, none⟩)), (2, .bool false), (24, .bool false), (26, v), (27, Zx l.length), (28, Zx (k : Nat))] _ _ ?_ (by simp (maxSteps := 2000000) only [↓Za, ↓Zo, ↓Zr, ↓Ze, ↓Zi, ↓Zs, ↓Zf, ↓Zl, ↓Zg, ↓Zc, ↓Zb, ↓vdn, vup, Zh, Zk, Zm, Zn, Zj, List.map_cons, List.map_nil, cond_true, cond_false, aop, Zv, Zq, Zp, ev, sput, Zt, Zz, Yb, unK, Zd, Zw, Nat.reduceBEq, Nat.reduceAdd, Int.reduceBEq, Int.reduceBNe, Int.reduceLT, Zu, Ya, tup, tyf])
    clear hN13
    try clear N13
    refine Ye fun B hB => ?_
    refine Yf ?_
    refine Zy fun N14 hN14 => ?_
    simp (maxSteps := 2000000) only [s58, ↓Za, ↓Zo, ↓Zr, ↓Ze, ↓Zi, ↓Zs, ↓Zf, ↓Zl, ↓Zg, ↓Zc, ↓Zb, ↓vdn, vup, Zh, Zk, Zm, Zn, Zj, List.map_cons, List.map_nil, cond_true, cond_false, aop, Zv, Zq, Zp, ev, sput, Zt, Zz, Yb, unK, Zd, Zw, Nat.reduceBEq, Nat.reduceAdd, Int.reduceBEq, Int.reduceBNe, Int.reduceLT, Zu, Ya, tup, tyf, hvp.idx el_30 esz_92 hk', hvp.load shp_92 hk', hxy, Xw, Xe, zero_92, storeBt (Xb hp zB) rfl, Wp]
    rw [← hG]
    refine hN14 [(1, .pointer (some ⟨h.length, 0, none⟩)), (2, .bool false), (3, Zx (k : Nat)), (4, .pointer (some ⟨hp.length, 0, none⟩)), (24, .bool false), (26, v), (27, Zx l.length), (28, Zx (k : Nat))] _ _ ?_ (by simp (maxSteps := 2000000) only [↓Za, ↓Zo, ↓Zr, ↓Ze, ↓Zi, ↓Zs, ↓Zf, ↓Zl, ↓Zg, ↓Zc, ↓Zb, ↓vdn, vup, Zh, Zk, Zm, Zn, Zj, List.map_cons, List.map_nil, cond_true, cond_false, aop, Zv, Zq, Zp, ev, sput, Zt, Zz, Yb, unK, Zd, Zw, Nat.reduceBEq, Nat.reduceAdd, Int.reduceBEq, Int.reduceBNe, Int.reduceLT, Zu, Ya, tup, tyf])
    clear hN14
    try clear N14
    refine Ye fun C hC => ?_
    refine Zy fun N15 hN15 => ?_
    simp only [q58_6]
    refine Xd [] (by kernel_rfl) (by kernel_rfl) (by kernel_rfl) (by kernel_rfl) ?_
    by_cases g1 : x < 0
    · simp (maxSteps := 2000000) only [s58, ↓Za, ↓Zo, ↓Zr, ↓Ze, ↓Zi, ↓Zs, ↓Zf, ↓Zl, ↓Zg, ↓Zc, ↓Zb, ↓vdn, vup, Zh, Zk, Zm, Zn, Zj, List.map_cons, List.map_nil, cond_true, cond_false, aop, Zv, Zq, Zp, ev, sput, Zt, Zz, Yb, unK, Zd, Zw, Nat.reduceBEq, Nat.reduceAdd, Int.reduceBEq, Int.reduceBNe, Int.reduceLT, Zu, Ya, tup, tyf, bA0, loadB0 c4, g1]
      refine hN15 [(1, .pointer (some ⟨h.length, 0, none⟩)), (2, .bool false), (3, Zx (k : Nat)), (4, .pointer (some ⟨hp.length, 0, none⟩)), (24, .bool false), (26, v), (27, Zx l.length), (28, Zx (k : Nat)), (53, .bool true)] _ _ ?_ (by simp (maxSteps := 2000000) only [↓Za, ↓Zo, ↓Zr, ↓Ze, ↓Zi, ↓Zs, ↓Zf, ↓Zl, ↓Zg, ↓Zc, ↓Zb, ↓vdn, vup, Zh, Zk, Zm, Zn, Zj, List.map_cons, List.map_nil, cond_true, cond_false, aop, Zv, Zq, Zp, ev, sput, Zt, Zz, Yb, unK, Zd, Zw, Nat.reduceBEq, Nat.reduceAdd, Int.reduceBEq, Int.reduceBNe, Int.reduceLT, Zu, Ya, tup, tyf])
      clear hN15
      try clear N15
      refine Yd ?_
      simp (maxSteps := 2000000) only [s58, ↓Za, ↓Zo, ↓Zr, ↓Ze, ↓Zi, ↓Zs, ↓Zf, ↓Zl, ↓Zg, ↓Zc, ↓Zb, ↓vdn, vup, Zh, Zk, Zm, Zn, Zj, List.map_cons, List.map_nil, cond_true, cond_false, aop, Zv, Zq, Zp, ev, sput, Zt, Zz, Yb, unK, Zd, Zw, Nat.reduceBEq, Nat.reduceAdd, Int.reduceBEq, Int.reduceBNe, Int.reduceLT, Zu, Ya, tup, tyf]
      exact ret0 (by simp [okB]; omega) _ rfl
    by_cases g2 : x ≥ 2 ^ m
    · simp (maxSteps := 2000000) only [s58, ↓Za, ↓Zo, ↓Zr, ↓Ze, ↓Zi, ↓Zs, ↓Zf, ↓Zl, ↓Zg, ↓Zc, ↓Zb, ↓vdn, vup, Zh, Zk, Zm, Zn, Zj, List.map_cons, List.map_nil, cond_true, cond_false, aop, Zv, Zq, Zp, ev, sput, Zt, Zz, Yb, unK, Zd, Zw, Nat.reduceBEq, Nat.reduceAdd, Int.reduceBEq, Int.reduceBNe, Int.reduceLT, Zu, Ya, tup, tyf, bA0, loadB0 c4, g1, tA0, loadT0 c1, hsh, Int.natCast_nonneg, g2]
      refine hN15 [(1, .pointer (some ⟨h.length, 0, none⟩)), (2, .bool false), (3, Zx (k : Nat)), (4, .pointer (some ⟨hp.length, 0, none⟩)), (24, .bool false), (26, v), (27, Zx l.length), (28, Zx (k : Nat)), (53, .bool true)] _ _ ?_ (by simp (maxSteps := 2000000) only [↓Za, ↓Zo, ↓Zr, ↓Ze, ↓Zi, ↓Zs, ↓Zf, ↓Zl, ↓Zg, ↓Zc, ↓Zb, ↓vdn, vup, Zh, Zk, Zm, Zn, Zj, List.map_cons, List.map_nil, cond_true, cond_false, aop, Zv, Zq, Zp, ev, sput, Zt, Zz, Yb, unK, Zd, Zw, Nat.reduceBEq, Nat.reduceAdd, Int.reduceBEq, Int.reduceBNe, Int.reduceLT, Zu, Ya, tup, tyf])
      clear hN15
      try clear N15
      refine Yd ?_
      simp (maxSteps := 2000000) only [s58, ↓Za, ↓Zo, ↓Zr, ↓Ze, ↓Zi, ↓Zs, ↓Zf, ↓Zl, ↓Zg, ↓Zc, ↓Zb, ↓vdn, vup, Zh, Zk, Zm, Zn, Zj, List.map_cons, List.map_nil, cond_true, cond_false, aop, Zv, Zq, Zp, ev, sput, Zt, Zz, Yb, unK, Zd, Zw, Nat.reduceBEq, Nat.reduceAdd, Int.reduceBEq, Int.reduceBNe, Int.reduceLT, Zu, Ya, tup, tyf]
      exact ret0 (by simp [okB]; omega) _ rfl
    by_cases g3 : y < 0
    · simp (maxSteps := 2000000) only [s58, ↓Za, ↓Zo, ↓Zr, ↓Ze, ↓Zi, ↓Zs, ↓Zf, ↓Zl, ↓Zg, ↓Zc, ↓Zb, ↓vdn, vup, Zh, Zk, Zm, Zn, Zj, List.map_cons, List.map_nil, cond_true, cond_false, aop, Zv, Zq, Zp, ev, sput, Zt, Zz, Yb, unK, Zd, Zw, Nat.reduceBEq, Nat.reduceAdd, Int.reduceBEq, Int.reduceBNe, Int.reduceLT, Zu, Ya, tup, tyf, bA0, bA1, loadB0 c4, loadB1 c4, g1, tA0, loadT0 c1, hsh, Int.natCast_nonneg, g2, g3]
      refine hN15 [(1, .pointer (some ⟨h.length, 0, none⟩)), (2, .bool false), (3, Zx (k : Nat)), (4, .pointer (some ⟨hp.length, 0, none⟩)), (24, .bool false), (26, v), (27, Zx l.length), (28, Zx (k : Nat)), (53, .bool true)] _ _ ?_ (by simp (maxSteps := 2000000) only [↓Za, ↓Zo, ↓Zr, ↓Ze, ↓Zi, ↓Zs, ↓Zf, ↓Zl, ↓Zg, ↓Zc, ↓Zb, ↓vdn, vup, Zh, Zk, Zm, Zn, Zj, List.map_cons, List.map_nil, cond_true, cond_false, aop, Zv, Zq, Zp, ev, sput, Zt, Zz, Yb, unK, Zd, Zw, Nat.reduceBEq, Nat.reduceAdd, Int.reduceBEq, Int.reduceBNe, Int.reduceLT, Zu, Ya, tup, tyf])
      clear hN15
      try clear N15
      refine Yd ?_
      simp (maxSteps := 2000000) only [s58, ↓Za, ↓Zo, ↓Zr, ↓Ze, ↓Zi, ↓Zs, ↓Zf, ↓Zl, ↓Zg, ↓Zc, ↓Zb, ↓vdn, vup, Zh, Zk, Zm, Zn, Zj, List.map_cons, List.map_nil, cond_true, cond_false, aop, Zv, Zq, Zp, ev, sput, Zt, Zz, Yb, unK, Zd, Zw, Nat.reduceBEq, Nat.reduceAdd, Int.reduceBEq, Int.reduceBNe, Int.reduceLT, Zu, Ya, tup, tyf]
      exact ret0 (by simp [okB]; omega) _ rfl
    by_cases g4 : y > 12
    · simp (maxSteps := 2000000) only [s58, ↓Za, ↓Zo, ↓Zr, ↓Ze, ↓Zi, ↓Zs, ↓Zf, ↓Zl, ↓Zg, ↓Zc, ↓Zb, ↓vdn, vup, Zh, Zk, Zm, Zn, Zj, List.map_cons, List.map_nil, cond_true, cond_false, aop, Zv, Zq, Zp, ev, sput, Zt, Zz, Yb, unK, Zd, Zw, Nat.reduceBEq, Nat.reduceAdd, Int.reduceBEq, Int.reduceBNe, Int.reduceLT, Zu, Ya, tup, tyf, bA0, bA1, loadB0 c4, loadB1 c4, g1, tA0, loadT0 c1, hsh, Int.natCast_nonneg, g2, g3, g4]
      refine hN15 [(1, .pointer (some ⟨h.length, 0, none⟩)), (2, .bool false), (3, Zx (k : Nat)), (4, .pointer (some ⟨hp.length, 0, none⟩)), (24, .bool false), (26, v), (27, Zx l.length), (28, Zx (k : Nat)), (53, .bool true)] _ _ ?_ (by simp (maxSteps := 2000000) only [↓Za, ↓Zo, ↓Zr, ↓Ze, ↓Zi, ↓Zs, ↓Zf, ↓Zl, ↓Zg, ↓Zc, ↓Zb, ↓vdn, vup, Zh, Zk, Zm, Zn, Zj, List.map_cons, List.map_nil, cond_true, cond_false, aop, Zv, Zq, Zp, ev, sput, Zt, Zz, Yb, unK, Zd, Zw, Nat.reduceBEq, Nat.reduceAdd, Int.reduceBEq, Int.reduceBNe, Int.reduceLT, Zu, Ya, tup, tyf])
      clear hN15
      try clear N15
      refine Yd ?_
      simp (maxSteps := 2000000) only [s58, ↓Za, ↓Zo, ↓Zr, ↓Ze, ↓Zi, ↓Zs, ↓Zf, ↓Zl, ↓Zg, ↓Zc, ↓Zb, ↓vdn, vup, Zh, Zk, Zm, Zn, Zj, List.map_cons, List.map_nil, cond_true, cond_false, aop, Zv, Zq, Zp, ev, sput, Zt, Zz, Yb, unK, Zd, Zw, Nat.reduceBEq, Nat.reduceAdd, Int.reduceBEq, Int.reduceBNe, Int.reduceLT, Zu, Ya, tup, tyf]
      exact ret0 (by simp [okB]; omega) _ rfl
    simp (maxSteps := 2000000) only [s58, ↓Za, ↓Zo, ↓Zr, ↓Ze, ↓Zi, ↓Zs, ↓Zf, ↓Zl, ↓Zg, ↓Zc, ↓Zb, ↓vdn, vup, Zh, Zk, Zm, Zn, Zj, List.map_cons, List.map_nil, cond_true, cond_false, aop, Zv, Zq, Zp, ev, sput, Zt, Zz, Yb, unK, Zd, Zw, Nat.reduceBEq, Nat.reduceAdd, Int.reduceBEq, Int.reduceBNe, Int.reduceLT, Zu, Ya, tup, tyf, bA0, bA1, loadB0 c4, loadB1 c4, g1, tA0, loadT0 c1, hsh, Int.natCast_nonneg, g2, g3, g4]
    refine hN15 [(1, .pointer (some ⟨h.length, 0, none⟩)), (2, .bool false), (3, Zx (k : Nat)), (4, .pointer (some ⟨hp.length, 0, none⟩)), (24, .bool false), (26, v), (27, Zx l.length), (28, Zx (k : Nat)), (53, .bool false)] _ _ ?_ (by simp (maxSteps := 2000000) only [↓Za, ↓Zo, ↓Zr, ↓Ze, ↓Zi, ↓Zs, ↓Zf, ↓Zl, ↓Zg, ↓Zc, ↓Zb, ↓vdn, vup, Zh, Zk, Zm, Zn, Zj, List.map_cons, List.map_nil, cond_true, cond_false, aop, Zv, Zq, Zp, ev, sput, Zt, Zz, Yb, unK, Zd, Zw, Nat.reduceBEq, Nat.reduceAdd, Int.reduceBEq, Int.reduceBNe, Int.reduceLT, Zu, Ya, tup, tyf])
    clear hN15
    try clear N15
    refine Yd ?_
    simp (maxSteps := 2000000) only [s58, ↓Za, ↓Zo, ↓Zr, ↓Ze, ↓Zi, ↓Zs, ↓Zf, ↓Zl, ↓Zg, ↓Zc, ↓Zb, ↓vdn, vup, Zh, Zk, Zm, Zn, Zj, List.map_cons, List.map_nil, cond_true, cond_false, aop, Zv, Zq, Zp, ev, sput, Zt, Zz, Yb, unK, Zd, Zw, Nat.reduceBEq, Nat.reduceAdd, Int.reduceBEq, Int.reduceBNe, Int.reduceLT, Zu, Ya, tup, tyf]
    refine hC [(1, .pointer (some ⟨h.length, 0, none⟩)), (2, .bool false), (3, Zx (k : Nat)), (4, .pointer (some ⟨hp.length, 0, none⟩)), (24, .bool false), (26, v), (27, Zx l.length), (28, Zx (k : Nat))] _ _ ?_ (by simp (maxSteps := 2000000) only [↓Za, ↓Zo, ↓Zr, ↓Ze, ↓Zi, ↓Zs, ↓Zf, ↓Zl, ↓Zg, ↓Zc, ↓Zb, ↓vdn, vup, Zh, Zk, Zm, Zn, Zj, List.map_cons, List.map_nil, cond_true, cond_false, aop, Zv, Zq, Zp, ev, sput, Zt, Zz, Yb, unK, Zd, Zw, Nat.reduceBEq, Nat.reduceAdd, Int.reduceBEq, Int.reduceBNe, Int.reduceLT, Zu, Ya, tup, tyf])
    clear hC
    try clear C
    have hok : okB m (x, y) = true := by simp [okB]; omega
    refine Zy fun N16 hN16 => ?_
    simp (maxSteps := 2000000) only [s58, ↓Za, ↓Zo, ↓Zr, ↓Ze, ↓Zi, ↓Zs, ↓Zf, ↓Zl, ↓Zg, ↓Zc, ↓Zb, ↓vdn, vup, Zh, Zk, Zm, Zn, Zj, List.map_cons, List.map_nil, cond_true, cond_false, aop, Zv, Zq, Zp, ev, sput, Zt, Zz, Yb, unK, Zd, Zw, Nat.reduceBEq, Nat.reduceAdd, Int.reduceBEq, Int.reduceBNe, Int.reduceLT, Zu, Ya, tup, tyf, tA1, loadT1 c1, Option.map_some, Option.map_none]
    refine hvG.pre el_30 esz_92 (show k ≤ l.length by omega) fun v' hv' => ?_
    have hs := hasB_call (g := 99) (cap := #[.pointer (some ⟨hp.length, 0, none⟩)]) (f := fun z => z.1 == x) hv' (by rw [List.length_take]; omega) (fun h' hx p _ => sameB_call ((hx.2 _ (Yp c4) id).trans c4))
    simp (maxSteps := 2000000) only [s58, ↓Za, ↓Zo, ↓Zr, ↓Ze, ↓Zi, ↓Zs, ↓Zf, ↓Zl, ↓Zg, ↓Zc, ↓Zb, ↓vdn, vup, Zh, Zk, Zm, Zn, Zj, List.map_cons, List.map_nil, cond_true, cond_false, aop, Zv, Zq, Zp, ev, sput, Zt, Zz, Yb, unK, Zd, Zw, Nat.reduceBEq, Nat.reduceAdd, Int.reduceBEq, Int.reduceBNe, Int.reduceLT, Zu, Ya, tup, tyf, Yr, List.nil_append, List.append_nil, List.toList_toArray, List.cons_append, List.map_toArray]
    refine (hs).mono ?_
    rintro _ G ⟨rfl, rfl⟩
    refine hN16 [(1, .pointer (some ⟨h.length, 0, none⟩)), (2, .bool false), (3, Zx (k : Nat)), (4, .pointer (some ⟨hp.length, 0, none⟩)), (24, .bool false), (26, v), (27, Zx l.length), (28, Zx (k : Nat)), (59, .bool ((l.take k).any fun z => z.1 == x))] _ _ ?_ (by simp (maxSteps := 2000000) only [↓Za, ↓Zo, ↓Zr, ↓Ze, ↓Zi, ↓Zs, ↓Zf, ↓Zl, ↓Zg, ↓Zc, ↓Zb, ↓vdn, vup, Zh, Zk, Zm, Zn, Zj, List.map_cons, List.map_nil, cond_true, cond_false, aop, Zv, Zq, Zp, ev, sput, Zt, Zz, Yb, unK, Zd, Zw, Nat.reduceBEq, Nat.reduceAdd, Int.reduceBEq, Int.reduceBNe, Int.reduceLT, Zu, Ya, tup, tyf])
    clear hN16
    try clear N16
    refine Yd ?_
    cases hany : (l.take k).any fun z => z.1 == x with
    | true =>
      simp (maxSteps := 2000000) only [s58, ↓Za, ↓Zo, ↓Zr, ↓Ze, ↓Zi, ↓Zs, ↓Zf, ↓Zl, ↓Zg, ↓Zc, ↓Zb, ↓vdn, vup, Zh, Zk, Zm, Zn, Zj, List.map_cons, List.map_nil, cond_true, cond_false, aop, Zv, Zq, Zp, ev, sput, Zt, Zz, Yb, unK, Zd, Zw, Nat.reduceBEq, Nat.reduceAdd, Int.reduceBEq, Int.reduceBNe, Int.reduceLT, Zu, Ya, tup, tyf]
      exact ret0 (by rw [hany]; simp) _ rfl
    | false =>
      simp (maxSteps := 2000000) only [s58, ↓Za, ↓Zo, ↓Zr, ↓Ze, ↓Zi, ↓Zs, ↓Zf, ↓Zl, ↓Zg, ↓Zc, ↓Zb, ↓vdn, vup, Zh, Zk, Zm, Zn, Zj, List.map_cons, List.map_nil, cond_true, cond_false, aop, Zv, Zq, Zp, ev, sput, Zt, Zz, Yb, unK, Zd, Zw, Nat.reduceBEq, Nat.reduceAdd, Int.reduceBEq, Int.reduceBNe, Int.reduceLT, Zu, Ya, tup, tyf]
      refine hB [(1, .pointer (some ⟨h.length, 0, none⟩)), (2, .bool false), (24, .bool false), (26, v), (27, Zx l.length), (28, Zx (k : Nat))] _ _ ?_ (by simp (maxSteps := 2000000) only [↓Za, ↓Zo, ↓Zr, ↓Ze, ↓Zi, ↓Zs, ↓Zf, ↓Zl, ↓Zg, ↓Zc, ↓Zb, ↓vdn, vup, Zh, Zk, Zm, Zn, Zj, List.map_cons, List.map_nil, cond_true, cond_false, aop, Zv, Zq, Zp, ev, sput, Zt, Zz, Yb, unK, Zd, Zw, Nat.reduceBEq, Nat.reduceAdd, Int.reduceBEq, Int.reduceBNe, Int.reduceLT, Zu, Ya, tup, tyf])
      clear hB
      try clear B
      refine Yd ?_
      simp (maxSteps := 2000000) only [s58, ↓Za, ↓Zo, ↓Zr, ↓Ze, ↓Zi, ↓Zs, ↓Zf, ↓Zl, ↓Zg, ↓Zc, ↓Zb, ↓vdn, vup, Zh, Zk, Zm, Zn, Zj, List.map_cons, List.map_nil, cond_true, cond_false, aop, Zv, Zq, Zp, ev, sput, Zt, Zz, Yb, unK, Zd, Zw, Nat.reduceBEq, Nat.reduceAdd, Int.reduceBEq, Int.reduceBNe, Int.reduceLT, Zu, Ya, tup, tyf, add1 (show k < 9223372036854775807 by omega)]
      refine hQ2 _ _ _ ⟨(k + 1, G), ⟨hk', ?_, hEG⟩, by simp only; omega, by simp (maxSteps := 2000000) only [↓Za, ↓Zo, ↓Zr, ↓Ze, ↓Zi, ↓Zs, ↓Zf, ↓Zl, ↓Zg, ↓Zc, ↓Zb, ↓vdn, vup, Zh, Zk, Zm, Zn, Zj, List.map_cons, List.map_nil, cond_true, cond_false, aop, Zv, Zq, Zp, ev, sput, Zt, Zz, Yb, unK, Zd, Zw, Nat.reduceBEq, Nat.reduceAdd, Int.reduceBEq, Int.reduceBNe, Int.reduceLT, Zu, Ya, tup, tyf], rfl⟩
      simp only [validTo_succ, hall, hxy, hok, hany]; rfl
  · obtain rfl : k = l.length := by omega
    refine Zy fun N17 hN17 => ?_
    simp (maxSteps := 2000000) only [s58, ↓Za, ↓Zo, ↓Zr, ↓Ze, ↓Zi, ↓Zs, ↓Zf, ↓Zl, ↓Zg, ↓Zc, ↓Zb, ↓vdn, vup, Zh, Zk, Zm, Zn, Zj, List.map_cons, List.map_nil, cond_true, cond_false, aop, Zv, Zq, Zp, ev, sput, Zt, Zz, Yb, unK, Zd, Zw, Nat.reduceBEq, Nat.reduceAdd, Int.reduceBEq, Int.reduceBNe, Int.reduceLT, Zu, Ya, tup, tyf, hin]
    refine hN17 [(1, .pointer (some ⟨h.length, 0, none⟩)), (2, .bool false), (24, .bool false), (26, v), (27, Zx l.length), (28, Zx l.length), (29, .bool false)] _ _ ?_ (by simp (maxSteps := 2000000) only [↓Za, ↓Zo, ↓Zr, ↓Ze, ↓Zi, ↓Zs, ↓Zf, ↓Zl, ↓Zg, ↓Zc, ↓Zb, ↓vdn, vup, Zh, Zk, Zm, Zn, Zj, List.map_cons, List.map_nil, cond_true, cond_false, aop, Zv, Zq, Zp, ev, sput, Zt, Zz, Yb, unK, Zd, Zw, Nat.reduceBEq, Nat.reduceAdd, Int.reduceBEq, Int.reduceBNe, Int.reduceLT, Zu, Ya, tup, tyf])
    clear hN17
    try clear N17
    refine Zy fun N18 hN18 => ?_
    simp (maxSteps := 2000000) only [s58, ↓Za, ↓Zo, ↓Zr, ↓Ze, ↓Zi, ↓Zs, ↓Zf, ↓Zl, ↓Zg, ↓Zc, ↓Zb, ↓vdn, vup, Zh, Zk, Zm, Zn, Zj, List.map_cons, List.map_nil, cond_true, cond_false, aop, Zv, Zq, Zp, ev, sput, Zt, Zz, Yb, unK, Zd, Zw, Nat.reduceBEq, Nat.reduceAdd, Int.reduceBEq, Int.reduceBNe, Int.reduceLT, Zu, Ya, tup, tyf]
    refine hQ2 _ _ _ (hQ _ _ _ ?_)
    simp (maxSteps := 2000000) only [s58, ↓Za, ↓Zo, ↓Zr, ↓Ze, ↓Zi, ↓Zs, ↓Zf, ↓Zl, ↓Zg, ↓Zc, ↓Zb, ↓vdn, vup, Zh, Zk, Zm, Zn, Zj, List.map_cons, List.map_nil, cond_true, cond_false, aop, Zv, Zq, Zp, ev, sput, Zt, Zz, Yb, unK, Zd, Zw, Nat.reduceBEq, Nat.reduceAdd, Int.reduceBEq, Int.reduceBNe, Int.reduceLT, Zu, Ya, tup, tyf, if_true]
    refine hZ [(1, .pointer (some ⟨h.length, 0, none⟩)), (2, .bool false), (24, .bool false), (26, v), (27, Zx l.length), (28, Zx l.length), (29, .bool false)] _ _ ?_ (by simp (maxSteps := 2000000) only [↓Za, ↓Zo, ↓Zr, ↓Ze, ↓Zi, ↓Zs, ↓Zf, ↓Zl, ↓Zg, ↓Zc, ↓Zb, ↓vdn, vup, Zh, Zk, Zm, Zn, Zj, List.map_cons, List.map_nil, cond_true, cond_false, aop, Zv, Zq, Zp, ev, sput, Zt, Zz, Yb, unK, Zd, Zw, Nat.reduceBEq, Nat.reduceAdd, Int.reduceBEq, Int.reduceBNe, Int.reduceLT, Zu, Ya, tup, tyf])
    clear hZ
    try clear Z
    refine Yd ?_
    simp (maxSteps := 2000000) only [s58, ↓Za, ↓Zo, ↓Zr, ↓Ze, ↓Zi, ↓Zs, ↓Zf, ↓Zl, ↓Zg, ↓Zc, ↓Zb, ↓vdn, vup, Zh, Zk, Zm, Zn, Zj, List.map_cons, List.map_nil, cond_true, cond_false, aop, Zv, Zq, Zp, ev, sput, Zt, Zz, Yb, unK, Zd, Zw, Nat.reduceBEq, Nat.reduceAdd, Int.reduceBEq, Int.reduceBNe, Int.reduceLT, Zu, Ya, tup, tyf, hall]
    exact hE.trans hEp
end Go.Proofs.Try.Am

namespace Go.Proofs.Try.Am
open Go.Am Bq
set_option maxRecDepth 100000
set_option maxHeartbeats 4000000

theorem rowC_sum {n : Nat} {l : List (Int × Int)} {ws : List Nat} : rowC (sysB n l ws) ws.length 0 = rowL (2 ^ n - 1) ws 1 := by
  apply List.ext_getElem?
  intro c
  simp only [rowC, rowL, List.getElem?_map, List.getElem?_append, List.length_map]
  by_cases h : c < ws.length
  · simp [h, show c < ws.length + 1 by omega, sysB, List.getD]
  · rw [if_neg h]
    by_cases h2 : c = ws.length
    · subst h2; simp [sysB]
    · rw [List.getElem?_eq_none (by simp; omega), List.getElem?_eq_none (by simp; omega)]; rfl
theorem rowC_bet {n : Nat} {l : List (Int × Int)} {ws : List Nat} (i : Nat) : rowC (sysB n l ws) ws.length (i + 1) = rowL (l.getD i (0, 0)).1.toNat ws (Rat.divInt (l.getD i (0, 0)).2 12) := by
  apply List.ext_getElem?
  intro c
  simp only [rowC, rowL, List.getElem?_map, List.getElem?_append, List.length_map]
  by_cases h : c < ws.length
  · simp [h, show c < ws.length + 1 by omega, sysB, List.getD]
  · rw [if_neg h]
    by_cases h2 : c = ws.length
    · subst h2; simp [sysB]
    · rw [List.getElem?_eq_none (by simp; omega), List.getElem?_eq_none (by simp; omega)]; rfl

/-- A slice of slices that was written down, or grew. -/
def QSl (e : TypeId) (h : Yc) (v : Value) (ws : List Value) : Prop := (∃ b, v = .slice (some ⟨b, 0, none⟩) ws.length ws.length ∧ h[b]? = some (.cells ws e false)) ∨ OwnV e h v ws
theorem QSl.app [Tabs prog] {e t : TypeId} {h : Yc} {v r : Value} {ws : List Value} {b2 : Nat} (ho : QSl e h v ws) (hne : ws ≠ []) (hT : appT prog t t = some (e, 1, 24)) (hb2 : h[b2]? = some (.cells [r] e false)) (hw : ∀ w ∈ ws ++ [r], notI w = true ∧ one w = true) (hn : ws.length ≤ 1000)
    {K : Value → Yc → Prop} (hk : ∀ v' h', OwnV e h' v' (ws ++ [r]) → Ext (fun i => Yq v = some i) h h' → (Yq v' = Yq v ∨ ∃ b, Yq v' = some b ∧ h.length ≤ b) → K v' h') :
    Xm prog h t t v (.slice (some ⟨b2, 0, none⟩) 1 1) K := by
  rcases ho with ⟨b, rfl, hb⟩ | ho
  · simp only [Xm, hT, elemsK, putK, Xr, hb2, hb]
    refine ⟨fun h0 => absurd h0 (by decide), fun _ => ⟨by simp, fun h0 => by omega, fun _ => ⟨by omega, by simp, ?_⟩⟩⟩
    have e1 : (([r] : List Value).drop 0).take (1 * 1) = [r] := rfl
    have e2 : (ws.drop 0).take (ws.length * 1) = ws := by simp
    rw [e1, e2, mkb_no (by simp) (fun w hw' => (hw w hw').1)]
    refine hk _ _ (.inr ⟨h.length, [], by simp, by simp, by rw [List.append_nil]; exact Xb _ _⟩) (Ext.app _ _ _) (.inr ⟨_, rfl, Nat.le_refl _⟩)
  · exact ho.app hT (us := [r]) (.inr ⟨b2, 0, none, 1, [r], e, false, rfl, Nat.le_refl _, by simp [view, hb2, Blk.view], rfl⟩) hw (by simp; omega) hk

theorem litV [Tabs prog] {h : Yc} {t e : TypeId} {p : Option Addr} {n c : Nat} (he : elemOf' prog t = some e) (hz : Wg prog e = some [.slice none 0 0]) (hs : esz prog e = some 1) {K : Value → Yc → Prop} :
    Yw prog h t 1 [(0, .slice p n c)] K = K (.slice (some ⟨h.length, 0, none⟩) 1 1) (h ++ [.cells [.slice p n c] e false]) := by
  simp only [Yw, he, hz, hs, reps, fillL, mkb, Wv, cellsOf, List.length_cons, List.length_nil, Nat.zero_add, Nat.zero_mul, Yn]
  refine propext ⟨fun h => ?_, fun h => ⟨trivial, by decide, by decide, ?_⟩⟩
  · simpa [Xk] using h.2.2.2
  · simpa [Xk] using h
/-- A belief as it lies there; some of them. -/
def BelAt (h : Yc) (w : Value) (b : List Rat) : Prop := ∃ bl, w = .slice (some ⟨bl, 0, none⟩) b.length b.length ∧ h[bl]? = some (.cells ((Ym (b.map ofQ)).map Zx) 26 false)
def CornSl (h : Yc) (v : Value) (cs : List (List Rat)) : Prop := ∃ ws, OwnV 90 h v ws ∧ Each (BelAt h) ws cs
theorem CornSl.ext {h h' : Yc} {v : Value} {cs : List (List Rat)} (c : CornSl h v cs) (hE : Ext (fun _ => False) h h') : CornSl h' v cs := by
  obtain ⟨ws, h1, h2⟩ := c
  exact ⟨ws, h1.ext hE, h2.imp fun w b ⟨bl, g1, g2⟩ => ⟨bl, g1, (hE.2 _ (Yp g2) id).trans g2⟩⟩
theorem valid_spec {n : Nat} {l : List (Int × Int)} (h : Vo n l = true) : 2 ≤ n ∧ n ≤ 5 ∧ 1 ≤ l.length ∧ l.length ≤ 6 ∧ ∀ i, i < l.length → okB n (l.getD i (0, 0)) = true := by
  simp only [Vo, Bool.and_eq_true, decide_eq_true_eq, Int.toNat_natCast] at h
  obtain ⟨h1, h2, h3, h4, h5⟩ := h
  refine ⟨by omega, by omega, h3, h4, fun i hi => ?_⟩
  rw [validTo, List.all_eq_true] at h5
  have := h5 i (List.mem_range.2 hi)
  rw [Bool.and_eq_true] at this
  exact this.1
/-- The block of a row. -/
def bkOf (v : Value) : Nat := (Yq v).getD 0
/-- Equations as they grow. -/
structure Rows (hp0 : Nat) (G : Yc) (q : Value) (ws : List Value) (k : Nat) (T : Wu) : Prop where
  sl : QSl 47 G q ws
  ne : ws ≠ []
  row : ∀ i, i < ws.length → OwnP 26 G (ws.getD i undef) (rowC T k i)
  inj : ∀ i j, i < ws.length → j < ws.length → Yq (ws.getD i undef) = Yq (ws.getD j undef) → i = j
  sep : ∀ i, i < ws.length → Yq (ws.getD i undef) ≠ Yq q
  old : (∀ b, Yq q = some b → hp0 ≤ b) ∧ ∀ i b, i < ws.length → Yq (ws.getD i undef) = some b → hp0 ≤ b
theorem Vf {e : TypeId} {h : Yc} {v : Value} {ps : List (Int × Int)} (ho : OwnP e h v ps) (hne : ps ≠ []) : ∃ b ys, v = .slice (some ⟨b, 0, some 0⟩) ps.length (ps.length + ys.length) ∧ h[b]? = some (.ints (Ym ps ++ Ym ys) e false) := by
  rcases ho with ⟨_, h1⟩ | ⟨b, ys, h1, h2⟩
  · exact absurd h1 hne
  · exact ⟨b, ys, h1, h2⟩
theorem rowC_ne {T : Wu} {k i : Nat} : rowC T k i ≠ [] := by
  intro h
  have := rowC_len T k i
  rw [h] at this; simp at this
theorem QSl.blk {e : TypeId} {h : Yc} {v : Value} {ws : List Value} (hq : QSl e h v ws) (hne : ws ≠ []) : ∃ b c, Yq v = some b ∧ h[b]? = some (.cells c e false) ∧ b < h.length := by
  rcases hq with ⟨b, rfl, hb⟩ | ho
  · exact ⟨b, ws, rfl, hb, Yp hb⟩
  · rcases ho with ⟨_, h1⟩ | ⟨b, ys, rfl, _, hb⟩
    · exact absurd h1 hne
    · exact ⟨b, _, rfl, hb, Yp hb⟩
theorem Rows.ext {hp0 : Nat} {G G' : Yc} {q : Value} {ws : List Value} {k : Nat} {T : Wu} (R : Rows hp0 G q ws k T) (hE : Ext (fun _ => False) G G') : Rows hp0 G' q ws k T where
  sl := by
    rcases R.sl with ⟨b, h1, h2⟩ | ho
    · exact .inl ⟨b, h1, (hE.2 _ (Yp h2) id).trans h2⟩
    · exact .inr (ho.ext hE)
  ne := R.ne
  row i hi := (R.row i hi).ext hE
  inj := R.inj
  sep := R.sep
  old := R.old
/-- One row more. -/
theorem Rows.more [Tabs prog] {hp0 : Nat} {G G2 : Yc} {q rv : Value} {ws : List Value} {k b2 : Nat} {T : Wu} (R : Rows hp0 G q ws k T) (hl : ws.length ≤ 1000) (h0 : hp0 ≤ G.length) (hE : Ext (fun _ => False) G G2) (hr : OwnP 26 G2 rv (rowC T k ws.length)) (hrb : ∀ b, Yq rv = some b → G.length ≤ b) (hb2 : G2[b2]? = some (.cells [rv] 47 false))
    {K : Value → Yc → Prop} (hk : ∀ q' h', OwnV 47 h' q' (ws ++ [rv]) → Rows hp0 h' q' (ws ++ [rv]) k T → Ext (fun b => hp0 ≤ b) G2 h' → Ext (fun i => Yq q = some i) G2 h' → K q' h') : Xm prog G2 103 103 q (.slice (some ⟨b2, 0, none⟩) 1 1) K := by
  have R2 := R.ext hE
  obtain ⟨bq, cq, hbq, hq1, hq2⟩ := R.sl.blk R.ne
  obtain ⟨br, yr, hr1, hr2⟩ := Vf hr rowC_ne
  have hbr : Yq rv = some br := by rw [hr1]; rfl
  have hbrl := hrb br hbr
  have hw : ∀ w ∈ ws ++ [rv], notI w = true ∧ one w = true := fun w hw => by
    rcases List.mem_append.1 hw with h1 | h1
    · obtain ⟨i, hi, rfl⟩ := List.mem_iff_getElem.1 h1
      obtain ⟨b, ys, e1, _⟩ := Vf (R.row i hi) rowC_ne
      rw [List.getD, List.getElem?_eq_getElem hi, Option.getD_some] at e1
      rw [e1]; exact ⟨rfl, rfl⟩
    · rw [List.mem_singleton.1 h1, hr1]; exact ⟨rfl, rfl⟩
  refine R2.sl.app R.ne app_103_103 hb2 hw hl fun q' h' ho hE' hb' => ?_
  have rowb : ∀ i, i < ws.length → ∃ b, Yq (ws.getD i undef) = some b ∧ b < G.length := fun i hi => by
    obtain ⟨b, ys, e1, e2⟩ := Vf (R.row i hi) rowC_ne
    exact ⟨b, by rw [e1]; rfl, Yp e2⟩
  have g1 : ∀ i, i < ws.length → (ws ++ [rv]).getD i undef = ws.getD i undef := fun i hi => by
    rw [List.getD, List.getElem?_append_left hi]; rfl
  have g2 : (ws ++ [rv]).getD ws.length undef = rv := by simp [List.getD]
  have hq'b : ∀ b, Yq q' = some b → b = bq ∨ G2.length ≤ b := fun b hb => by
    rcases hb' with h1 | ⟨b', h1, h2⟩
    · rw [h1, hbq] at hb; cases hb; exact .inl rfl
    · rw [h1] at hb; cases hb; exact .inr h2
  have keep : ∀ b, b ≠ bq → b < G2.length → h'[b]? = G2[b]? := fun b hb hl => hE'.2 b hl fun hc => hb (by rw [hbq] at hc; cases hc; rfl)
  refine hk q' h' ho ⟨.inr ho, by simp, fun i hi => ?_, fun i j hi hj he => ?_, fun i hi => ?_, ⟨fun b hb => ?_, fun i b hi hb => ?_⟩⟩ (hE'.mono fun b hb => R.old.1 b hb) hE'
  · rw [List.length_append, List.length_singleton] at hi
    rcases Nat.lt_or_ge i ws.length with h1 | h1
    · rw [g1 i h1]
      refine (R2.row i h1).same fun b hb => ?_
      obtain ⟨b', e1, e2⟩ := rowb i h1
      rw [e1] at hb; cases hb
      exact keep _ (fun hc => R.sep i h1 (by rw [e1, hbq, hc])) (by have := hE.1; omega)
    · rw [show i = ws.length by omega, g2]
      refine hr.same fun b hb => ?_
      rw [hbr] at hb; cases hb
      exact keep _ (by omega) (Yp hr2)
  · rw [List.length_append, List.length_singleton] at hi hj
    rcases Nat.lt_or_ge i ws.length with h1 | h1 <;> rcases Nat.lt_or_ge j ws.length with h2 | h2
    · rw [g1 i h1, g1 j h2] at he; exact R.inj i j h1 h2 he
    · rw [g1 i h1, show j = ws.length by omega, g2, hbr] at he
      obtain ⟨b', e1, e2⟩ := rowb i h1
      rw [e1] at he; cases he; omega
    · rw [g1 j h2, show i = ws.length by omega, g2, hbr] at he
      obtain ⟨b', e1, e2⟩ := rowb j h2
      rw [e1] at he; cases he; omega
    · omega
  · rw [List.length_append, List.length_singleton] at hi
    intro hc
    rcases Nat.lt_or_ge i ws.length with h1 | h1
    · rw [g1 i h1] at hc
      obtain ⟨b', e1, e2⟩ := rowb i h1
      rw [e1] at hc
      rcases hq'b b' hc.symm with h3 | h3
      · exact R.sep i h1 (by rw [e1, hbq, h3])
      · have := hE.1; omega
    · rw [show i = ws.length by omega, g2, hbr] at hc
      rcases hq'b br hc.symm with h3 | h3
      · omega
      · have := Yp hr2; omega
  · rcases hq'b b hb with h3 | h3
    · rw [h3]; exact R.old.1 _ hbq
    · have := hE.1; omega
  · rw [List.length_append, List.length_singleton] at hi
    rcases Nat.lt_or_ge i ws.length with h1 | h1
    · rw [g1 i h1] at hb; exact R.old.2 i b h1 hb
    · rw [show i = ws.length by omega, g2] at hb
      have := hrb b hb; omega
/-- Equations ready to be solved. -/
theorem Rows.mat {hp0 : Nat} {G : Yc} {q : Value} {ws : List Value} {k : Nat} {T : Wu} (R : Rows hp0 G q ws k T) (ho : OwnV 47 G q ws) : ∃ B C, q = .slice (some ⟨B, 0, some 0⟩) ws.length C ∧ ws.length ≤ C ∧ hp0 ≤ B ∧ Mat G B ws.length k (fun i => ws.getD i undef) (fun i => bkOf (ws.getD i undef)) T ∧ ∀ i, i < ws.length → hp0 ≤ bkOf (ws.getD i undef) := by
  rcases ho with ⟨_, h1⟩ | ⟨B, us, hq, _, hb⟩
  · exact absurd h1 R.ne
  · have hqb : Yq q = some B := by rw [hq]; rfl
    have rowb : ∀ i, i < ws.length → ∃ b ys, ws.getD i undef = .slice (some ⟨b, 0, some 0⟩) (k + 1) (k + 1 + ys.length) ∧ G[b]? = some (.ints (Ym (rowC T k i) ++ Ym ys) 26 false) := fun i hi => by
      obtain ⟨b, ys, e1, e2⟩ := Vf (R.row i hi) rowC_ne
      rw [rowC_len] at e1
      exact ⟨b, ys, e1, e2⟩
    have bk : ∀ i, i < ws.length → Yq (ws.getD i undef) = some (bkOf (ws.getD i undef)) := fun i hi => by
      obtain ⟨b, ys, e1, e2⟩ := rowb i hi
      rw [e1]; rfl
    refine ⟨B, _, hq, by omega, R.old.1 B hqb, ⟨⟨us, ?_⟩, fun i hi => ?_, fun i j hi hj he => ?_, fun i hi hc => ?_⟩, fun i hi => R.old.2 i _ hi (bk i hi)⟩
    · have : (List.range ws.length).map (fun i => ws.getD i undef) = ws := by
        apply List.ext_getElem (by simp)
        intro i h1 h2
        simp [List.getD, h2]
      rw [this]; exact hb
    · obtain ⟨b, ys, e1, e2⟩ := rowb i hi
      refine ⟨k + 1 + ys.length, Ym ys, e1.trans ?_, by omega, ?_⟩
      · rw [bkOf, e1]; rfl
      · rw [bkOf, e1]; exact e2
    · exact R.inj i j hi hj (by rw [bk i hi, bk j hj, he])
    · exact R.sep i hi (by rw [bk i hi, hqb, hc])
end Go.Proofs.Try.Am

namespace Go.Proofs.Try.Am
open Go.Am Bq
set_option maxRecDepth 100000
set_option maxHeartbeats 4000000

theorem loopEnd {a b : Nat} (h1 : ¬ (a : Int) < b) (h2 : a ≤ b) : b = a := by omega
theorem castI_snoc (L : List Nat) (k : Nat) : castI (L ++ [k]) = castI L ++ [(k : Int)] := by simp [castI]

theorem s60_callW [Tabs Try.prog] {args : List Value} {h : Yc} {Q : Value → Yc → Prop} (hsz : args.length ≤ 103) (hk : AWS Try.prog 103 s60 (Zu Try.prog [.tmp 2] Q) (Zp 0 args) h) : ACall Try.prog 60 args h Q :=
  Yx Try.func60 rfl (enters_of Try.func60 (by kernel_rfl) rfl) rfl rfl (by decide) s60_strip s60_ok hsz hk
theorem corners_call [Tabs prog] {h : Yc} {n : Nat} {v : Value} {l : List (Int × Int)} (hv : PairSl h v l) (hval : Vo n l = true) (htame : TameAll n l) :
    ACall prog 60 [.agg #[Zx (n : Nat), v]] h fun r h' => Ext (fun _ => False) h h' ∧ CornSl h' r (cornersB n l) ∧ ∀ b, Yq r = some b → h.length ≤ b := by
  obtain ⟨hn2, hn5, hl1, hl6, hok⟩ := valid_spec hval
  have hpn : (2 : Nat) ^ n ≤ 2 ^ 5 := Nat.pow_le_pow_right (by decide) hn5
  have hp32 : (2 : Nat) ^ n ≤ 32 := hpn
  have hpp := Nat.two_pow_pos n
  have hsh : shlV .i64 1 (n : Int) = ((2 ^ n : Nat) : Int) := by rw [shl1 (by omega), pow_cast]
  have hsub : subV .i64 ((2 ^ n : Nat) : Int) 1 = ((2 ^ n - 1 : Nat) : Int) := by rw [subN (by omega)]; omega
  obtain ⟨H, hH⟩ : ∃ H, H = h ++ [Blk.cells [Zx (n : Nat), v] 86 false] := ⟨_, rfl⟩
  have hE : Ext (fun _ => False) h H := by rw [hH]; exact Ext.app _ _ _
  have t1 : H[h.length]? = some (.cells [Zx (n : Nat), v] 86 false) := by rw [hH]; exact Xb _ _
  refine s60_callW (by simp) ?_
  simp only [s60]
  refine Zy fun N1 hN1 => ?_
  simp (maxSteps := 2000000) only [s60, ↓Za, ↓Zo, ↓Zr, ↓Ze, ↓Zi, ↓Zs, ↓Zf, ↓Zl, ↓Zg, ↓Zc, ↓Zb, ↓vdn, vup, Zh, Zk, Zm, Zn, Zj, List.map_cons, List.map_nil, cond_true, cond_false, aop, Zv, Zq, Zp, ev, sput, Zt, Zz, Yb, unK, Zd, Zw, Nat.reduceBEq, Nat.reduceAdd, Int.reduceBEq, Int.reduceBNe, Int.reduceLT, Zu, Ya, tup, tyf, boxT, Xe]
  rw [← hH]
  refine hN1 [(1, .pointer (some ⟨h.length, 0, none⟩)), (2, .slice none 0 0)] _ _ ?_ (by simp (maxSteps := 2000000) only [↓Za, ↓Zo, ↓Zr, ↓Ze, ↓Zi, ↓Zs, ↓Zf, ↓Zl, ↓Zg, ↓Zc, ↓Zb, ↓vdn, vup, Zh, Zk, Zm, Zn, Zj, List.map_cons, List.map_nil, cond_true, cond_false, aop, Zv, Zq, Zp, ev, sput, Zt, Zz, Yb, unK, Zd, Zw, Nat.reduceBEq, Nat.reduceAdd, Int.reduceBEq, Int.reduceBNe, Int.reduceLT, Zu, Ya, tup, tyf])
  clear hN1
  try clear N1
  refine Zy fun N2 hN2 => ?_
  simp (maxSteps := 2000000) only [s60, ↓Za, ↓Zo, ↓Zr, ↓Ze, ↓Zi, ↓Zs, ↓Zf, ↓Zl, ↓Zg, ↓Zc, ↓Zb, ↓vdn, vup, Zh, Zk, Zm, Zn, Zj, List.map_cons, List.map_nil, cond_true, cond_false, aop, Zv, Zq, Zp, ev, sput, Zt, Zz, Yb, unK, Zd, Zw, Nat.reduceBEq, Nat.reduceAdd, Int.reduceBEq, Int.reduceBNe, Int.reduceLT, Zu, Ya, tup, tyf]
  refine hN2 [(1, .pointer (some ⟨h.length, 0, none⟩)), (2, .slice none 0 0), (3, .slice none 0 0)] _ _ ?_ (by simp (maxSteps := 2000000) only [↓Za, ↓Zo, ↓Zr, ↓Ze, ↓Zi, ↓Zs, ↓Zf, ↓Zl, ↓Zg, ↓Zc, ↓Zb, ↓vdn, vup, Zh, Zk, Zm, Zn, Zj, List.map_cons, List.map_nil, cond_true, cond_false, aop, Zv, Zq, Zp, ev, sput, Zt, Zz, Yb, unK, Zd, Zw, Nat.reduceBEq, Nat.reduceAdd, Int.reduceBEq, Int.reduceBNe, Int.reduceLT, Zu, Ya, tup, tyf])
  clear hN2
  try clear N2
  refine Ye fun Z hZ => ?_
  refine Zy fun N3 hN3 => ?_
  simp (maxSteps := 2000000) only [s60, ↓Za, ↓Zo, ↓Zr, ↓Ze, ↓Zi, ↓Zs, ↓Zf, ↓Zl, ↓Zg, ↓Zc, ↓Zb, ↓vdn, vup, Zh, Zk, Zm, Zn, Zj, List.map_cons, List.map_nil, cond_true, cond_false, aop, Zv, Zq, Zp, ev, sput, Zt, Zz, Yb, unK, Zd, Zw, Nat.reduceBEq, Nat.reduceAdd, Int.reduceBEq, Int.reduceBNe, Int.reduceLT, Zu, Ya, tup, tyf]
  refine hN3 [(1, .pointer (some ⟨h.length, 0, none⟩)), (2, .slice none 0 0), (3, .slice none 0 0), (4, .int .i64 1)] _ _ ?_ (by simp (maxSteps := 2000000) only [↓Za, ↓Zo, ↓Zr, ↓Ze, ↓Zi, ↓Zs, ↓Zf, ↓Zl, ↓Zg, ↓Zc, ↓Zb, ↓vdn, vup, Zh, Zk, Zm, Zn, Zj, List.map_cons, List.map_nil, cond_true, cond_false, aop, Zv, Zq, Zp, ev, sput, Zt, Zz, Yb, unK, Zd, Zw, Nat.reduceBEq, Nat.reduceAdd, Int.reduceBEq, Int.reduceBNe, Int.reduceLT, Zu, Ya, tup, tyf])
  clear hN3
  try clear N3
  refine Yf ?_
  refine Yh fun Q hQ => ?_
  refine Yv (γ := Nat × Value × Yc) (fun s => 1 ≤ s.1 ∧ s.1 ≤ 2 ^ n ∧ CornSl s.2.2 s.2.1 (Wy n l (s.1 - 1)) ∧ Ext (fun _ => False) H s.2.2 ∧ ∀ b, Yq s.2.1 = some b → H.length ≤ b)
    (fun s => ([(1, .pointer (some ⟨h.length, 0, none⟩)), (2, .slice none 0 0), (3, s.2.1), (4, Zx (s.1 : Nat))], s.2.2)) (fun s => 2 ^ n - s.1) (1, .slice none 0 0, H) ⟨Nat.le_refl _, hpp, ⟨[], .inl ⟨rfl, rfl⟩, trivial⟩, Ext.refl _ _, fun b hb => by cases hb⟩ (by simp (maxSteps := 2000000) only [↓Za, ↓Zo, ↓Zr, ↓Ze, ↓Zi, ↓Zs, ↓Zf, ↓Zl, ↓Zg, ↓Zc, ↓Zb, ↓vdn, vup, Zh, Zk, Zm, Zn, Zj, List.map_cons, List.map_nil, cond_true, cond_false, aop, Zv, Zq, Zp, ev, sput, Zt, Zz, Yb, unK, Zd, Zw, Nat.reduceBEq, Nat.reduceAdd, Int.reduceBEq, Int.reduceBNe, Int.reduceLT, Zu, Ya, tup, tyf, Int.natCast_one]) rfl ?_
  rintro ⟨s, out, hp⟩ ⟨hs1, hs, hcs, hEp, hbo⟩
  simp only at hs1 hs hcs hEp hbo
  refine Yh fun Q2 hQ2 => ?_
  simp only [l60_3]
  have t1p : hp[h.length]? = some (.cells [Zx (n : Nat), v] 86 false) := (hEp.2 _ (Yp t1) id).trans t1
  have hHl : h.length < H.length := Yp t1
  by_cases hin : (s : Int) < ((2 ^ n : Nat) : Int)
  · have hs' : s < 2 ^ n := by omega
    refine Zy fun N4 hN4 => ?_
    simp (maxSteps := 2000000) only [s60, ↓Za, ↓Zo, ↓Zr, ↓Ze, ↓Zi, ↓Zs, ↓Zf, ↓Zl, ↓Zg, ↓Zc, ↓Zb, ↓vdn, vup, Zh, Zk, Zm, Zn, Zj, List.map_cons, List.map_nil, cond_true, cond_false, aop, Zv, Zq, Zp, ev, sput, Zt, Zz, Yb, unK, Zd, Zw, Nat.reduceBEq, Nat.reduceAdd, Int.reduceBEq, Int.reduceBNe, Int.reduceLT, Zu, Ya, tup, tyf, tA0, loadT0 t1p, Int.natCast_nonneg, hsh, hin]
    refine hN4 [(1, .pointer (some ⟨h.length, 0, none⟩)), (2, .slice none 0 0), (3, out), (4, Zx (s : Nat))] _ _ ?_ (by simp (maxSteps := 2000000) only [↓Za, ↓Zo, ↓Zr, ↓Ze, ↓Zi, ↓Zs, ↓Zf, ↓Zl, ↓Zg, ↓Zc, ↓Zb, ↓vdn, vup, Zh, Zk, Zm, Zn, Zj, List.map_cons, List.map_nil, cond_true, cond_false, aop, Zv, Zq, Zp, ev, sput, Zt, Zz, Yb, unK, Zd, Zw, Nat.reduceBEq, Nat.reduceAdd, Int.reduceBEq, Int.reduceBNe, Int.reduceLT, Zu, Ya, tup, tyf])
    clear hN4
    try clear N4
    refine Ye fun Y hY => ?_
    refine Yf ?_
    -- the worlds' box
    obtain ⟨H1, hH1⟩ : ∃ H1, H1 = hp ++ [Blk.cells [.slice none 0 0] 38 false] := ⟨_, rfl⟩
    have b5 : H1[hp.length]? = some (.cells [.slice none 0 0] 38 false) := by rw [hH1]; exact Xb _ _
    have hE1 : Ext (fun _ => False) hp H1 := by rw [hH1]; exact Ext.app _ _ _
    have hH1l : H1.length = hp.length + 1 := by rw [hH1]; simp
    refine Zy fun N5 hN5 => ?_
    simp (maxSteps := 2000000) only [s60, ↓Za, ↓Zo, ↓Zr, ↓Ze, ↓Zi, ↓Zs, ↓Zf, ↓Zl, ↓Zg, ↓Zc, ↓Zb, ↓vdn, vup, Zh, Zk, Zm, Zn, Zj, List.map_cons, List.map_nil, cond_true, cond_false, aop, Zv, Zq, Zp, ev, sput, Zt, Zz, Yb, unK, Zd, Zw, Nat.reduceBEq, Nat.reduceAdd, Int.reduceBEq, Int.reduceBNe, Int.reduceLT, Zu, Ya, tup, tyf, Xw, Xe, zero_38]
    rw [← hH1]
    refine hN5 [(1, .pointer (some ⟨h.length, 0, none⟩)), (2, .slice none 0 0), (3, out), (4, Zx (s : Nat)), (5, .pointer (some ⟨hp.length, 0, none⟩))] _ _ ?_ (by simp (maxSteps := 2000000) only [↓Za, ↓Zo, ↓Zr, ↓Ze, ↓Zi, ↓Zs, ↓Zf, ↓Zl, ↓Zg, ↓Zc, ↓Zb, ↓vdn, vup, Zh, Zk, Zm, Zn, Zj, List.map_cons, List.map_nil, cond_true, cond_false, aop, Zv, Zq, Zp, ev, sput, Zt, Zz, Yb, unK, Zd, Zw, Nat.reduceBEq, Nat.reduceAdd, Int.reduceBEq, Int.reduceBNe, Int.reduceLT, Zu, Ya, tup, tyf])
    clear hN5
    try clear N5
    -- the worlds
    refine Ye fun X hX => ?_
    refine Zy fun N6 hN6 => ?_
    simp (maxSteps := 2000000) only [s60, ↓Za, ↓Zo, ↓Zr, ↓Ze, ↓Zi, ↓Zs, ↓Zf, ↓Zl, ↓Zg, ↓Zc, ↓Zb, ↓vdn, vup, Zh, Zk, Zm, Zn, Zj, List.map_cons, List.map_nil, cond_true, cond_false, aop, Zv, Zq, Zp, ev, sput, Zt, Zz, Yb, unK, Zd, Zw, Nat.reduceBEq, Nat.reduceAdd, Int.reduceBEq, Int.reduceBNe, Int.reduceLT, Zu, Ya, tup, tyf, tA0, loadT0 ((hE1.2 _ (Yp t1p) id).trans t1p)]
    refine hN6 [(1, .pointer (some ⟨h.length, 0, none⟩)), (2, .slice none 0 0), (3, out), (4, Zx (s : Nat)), (5, .pointer (some ⟨hp.length, 0, none⟩)), (24, Zx (n : Nat)), (25, .int .i64 0)] _ _ ?_ (by simp (maxSteps := 2000000) only [↓Za, ↓Zo, ↓Zr, ↓Ze, ↓Zi, ↓Zs, ↓Zf, ↓Zl, ↓Zg, ↓Zc, ↓Zb, ↓vdn, vup, Zh, Zk, Zm, Zn, Zj, List.map_cons, List.map_nil, cond_true, cond_false, aop, Zv, Zq, Zp, ev, sput, Zt, Zz, Yb, unK, Zd, Zw, Nat.reduceBEq, Nat.reduceAdd, Int.reduceBEq, Int.reduceBNe, Int.reduceLT, Zu, Ya, tup, tyf])
    clear hN6
    try clear N6
    refine Yf ?_
    refine Yh fun Qa hQa => ?_
    refine Yv (γ := Nat × Value × Yc) (fun g => g.1 ≤ n ∧ g.2.2[hp.length]? = some (.cells [g.2.1] 38 false) ∧ OwnSl 3 g.2.2 g.2.1 (castI (Vq s g.1)) ∧ Ext (fun _ => False) hp g.2.2 ∧ (∀ b, Yq g.2.1 = some b → hp.length < b))
      (fun g => ([(1, .pointer (some ⟨h.length, 0, none⟩)), (2, .slice none 0 0), (3, out), (4, Zx (s : Nat)), (5, .pointer (some ⟨hp.length, 0, none⟩)), (24, Zx (n : Nat)), (25, Zx (g.1 : Nat))], g.2.2)) (fun g => n - g.1) (0, .slice none 0 0, H1) ⟨Nat.zero_le _, b5, .inl ⟨rfl, rfl⟩, hE1, fun b hb => by cases hb⟩ (by simp (maxSteps := 2000000) only [↓Za, ↓Zo, ↓Zr, ↓Ze, ↓Zi, ↓Zs, ↓Zf, ↓Zl, ↓Zg, ↓Zc, ↓Zb, ↓vdn, vup, Zh, Zk, Zm, Zn, Zj, List.map_cons, List.map_nil, cond_true, cond_false, aop, Zv, Zq, Zp, ev, sput, Zt, Zz, Yb, unK, Zd, Zw, Nat.reduceBEq, Nat.reduceAdd, Int.reduceBEq, Int.reduceBNe, Int.reduceLT, Zu, Ya, tup, tyf, Int.natCast_zero]) rfl ?_
    rintro ⟨k, wv, G⟩ ⟨hk, g5, how, hEG, hbw⟩
    simp only at hk g5 how hEG hbw
    refine Yh fun Qb hQb => ?_
    simp only [l60_0]
    by_cases hkin : (k : Int) < n
    · have hk' : k < n := by omega
      have ht := testV (y := k) (show s < 9223372036854775808 by omega)
      have hnx := worldsTo_succ s k
      refine Zy fun N7 hN7 => ?_
      simp (maxSteps := 2000000) only [s60, ↓Za, ↓Zo, ↓Zr, ↓Ze, ↓Zi, ↓Zs, ↓Zf, ↓Zl, ↓Zg, ↓Zc, ↓Zb, ↓vdn, vup, Zh, Zk, Zm, Zn, Zj, List.map_cons, List.map_nil, cond_true, cond_false, aop, Zv, Zq, Zp, ev, sput, Zt, Zz, Yb, unK, Zd, Zw, Nat.reduceBEq, Nat.reduceAdd, Int.reduceBEq, Int.reduceBNe, Int.reduceLT, Zu, Ya, tup, tyf, hkin]
      refine hN7 [(1, .pointer (some ⟨h.length, 0, none⟩)), (2, .slice none 0 0), (3, out), (4, Zx (s : Nat)), (5, .pointer (some ⟨hp.length, 0, none⟩)), (24, Zx (n : Nat)), (25, Zx (k : Nat)), (26, .bool true)] _ _ ?_ (by simp (maxSteps := 2000000) only [↓Za, ↓Zo, ↓Zr, ↓Ze, ↓Zi, ↓Zs, ↓Zf, ↓Zl, ↓Zg, ↓Zc, ↓Zb, ↓vdn, vup, Zh, Zk, Zm, Zn, Zj, List.map_cons, List.map_nil, cond_true, cond_false, aop, Zv, Zq, Zp, ev, sput, Zt, Zz, Yb, unK, Zd, Zw, Nat.reduceBEq, Nat.reduceAdd, Int.reduceBEq, Int.reduceBNe, Int.reduceLT, Zu, Ya, tup, tyf])
      clear hN7
      try clear N7
      refine Zy fun N8 hN8 => ?_
      simp (maxSteps := 2000000) only [s60, ↓Za, ↓Zo, ↓Zr, ↓Ze, ↓Zi, ↓Zs, ↓Zf, ↓Zl, ↓Zg, ↓Zc, ↓Zb, ↓vdn, vup, Zh, Zk, Zm, Zn, Zj, List.map_cons, List.map_nil, cond_true, cond_false, aop, Zv, Zq, Zp, ev, sput, Zt, Zz, Yb, unK, Zd, Zw, Nat.reduceBEq, Nat.reduceAdd, Int.reduceBEq, Int.reduceBNe, Int.reduceLT, Zu, Ya, tup, tyf]
      refine hN8 [(1, .pointer (some ⟨h.length, 0, none⟩)), (2, .slice none 0 0), (3, out), (4, Zx (s : Nat)), (5, .pointer (some ⟨hp.length, 0, none⟩)), (24, Zx (n : Nat)), (25, Zx (k : Nat))] _ _ ?_ (by simp (maxSteps := 2000000) only [↓Za, ↓Zo, ↓Zr, ↓Ze, ↓Zi, ↓Zs, ↓Zf, ↓Zl, ↓Zg, ↓Zc, ↓Zb, ↓vdn, vup, Zh, Zk, Zm, Zn, Zj, List.map_cons, List.map_nil, cond_true, cond_false, aop, Zv, Zq, Zp, ev, sput, Zt, Zz, Yb, unK, Zd, Zw, Nat.reduceBEq, Nat.reduceAdd, Int.reduceBEq, Int.reduceBNe, Int.reduceLT, Zu, Ya, tup, tyf])
      clear hN8
      try clear N8
      refine Ye fun B hB => ?_
      refine Yf ?_
      refine Zy fun N9 hN9 => ?_
      simp (maxSteps := 2000000) only [s60, ↓Za, ↓Zo, ↓Zr, ↓Ze, ↓Zi, ↓Zs, ↓Zf, ↓Zl, ↓Zg, ↓Zc, ↓Zb, ↓vdn, vup, Zh, Zk, Zm, Zn, Zj, List.map_cons, List.map_nil, cond_true, cond_false, aop, Zv, Zq, Zp, ev, sput, Zt, Zz, Yb, unK, Zd, Zw, Nat.reduceBEq, Nat.reduceAdd, Int.reduceBEq, Int.reduceBNe, Int.reduceLT, Zu, Ya, tup, tyf]
      refine hN9 [(1, .pointer (some ⟨h.length, 0, none⟩)), (2, .slice none 0 0), (3, out), (4, Zx (s : Nat)), (5, .pointer (some ⟨hp.length, 0, none⟩)), (6, Zx (k : Nat)), (24, Zx (n : Nat)), (25, Zx (k : Nat))] _ _ ?_ (by simp (maxSteps := 2000000) only [↓Za, ↓Zo, ↓Zr, ↓Ze, ↓Zi, ↓Zs, ↓Zf, ↓Zl, ↓Zg, ↓Zc, ↓Zb, ↓vdn, vup, Zh, Zk, Zm, Zn, Zj, List.map_cons, List.map_nil, cond_true, cond_false, aop, Zv, Zq, Zp, ev, sput, Zt, Zz, Yb, unK, Zd, Zw, Nat.reduceBEq, Nat.reduceAdd, Int.reduceBEq, Int.reduceBNe, Int.reduceLT, Zu, Ya, tup, tyf])
      clear hN9
      try clear N9
      refine Zy fun N10 hN10 => ?_
      simp (maxSteps := 2000000) only [s60, ↓Za, ↓Zo, ↓Zr, ↓Ze, ↓Zi, ↓Zs, ↓Zf, ↓Zl, ↓Zg, ↓Zc, ↓Zb, ↓vdn, vup, Zh, Zk, Zm, Zn, Zj, List.map_cons, List.map_nil, cond_true, cond_false, aop, Zv, Zq, Zp, ev, sput, Zt, Zz, Yb, unK, Zd, Zw, Nat.reduceBEq, Nat.reduceAdd, Int.reduceBEq, Int.reduceBNe, Int.reduceLT, Zu, Ya, tup, tyf, ht, beq1, Int.natCast_nonneg]
      refine hN10 [(1, .pointer (some ⟨h.length, 0, none⟩)), (2, .slice none 0 0), (3, out), (4, Zx (s : Nat)), (5, .pointer (some ⟨hp.length, 0, none⟩)), (6, Zx (k : Nat)), (24, Zx (n : Nat)), (25, Zx (k : Nat)), (32, .bool (s.testBit k))] _ _ ?_ (by simp (maxSteps := 2000000) only [↓Za, ↓Zo, ↓Zr, ↓Ze, ↓Zi, ↓Zs, ↓Zf, ↓Zl, ↓Zg, ↓Zc, ↓Zb, ↓vdn, vup, Zh, Zk, Zm, Zn, Zj, List.map_cons, List.map_nil, cond_true, cond_false, aop, Zv, Zq, Zp, ev, sput, Zt, Zz, Yb, unK, Zd, Zw, Nat.reduceBEq, Nat.reduceAdd, Int.reduceBEq, Int.reduceBNe, Int.reduceLT, Zu, Ya, tup, tyf])
      clear hN10
      try clear N10
      cases hbit : s.testBit k with
      | false =>
        rw [hbit, if_neg (by decide), List.append_nil] at hnx
        refine Xs rfl ?_
        refine Yd ?_
        simp (maxSteps := 2000000) only [s60, ↓Za, ↓Zo, ↓Zr, ↓Ze, ↓Zi, ↓Zs, ↓Zf, ↓Zl, ↓Zg, ↓Zc, ↓Zb, ↓vdn, vup, Zh, Zk, Zm, Zn, Zj, List.map_cons, List.map_nil, cond_true, cond_false, aop, Zv, Zq, Zp, ev, sput, Zt, Zz, Yb, unK, Zd, Zw, Nat.reduceBEq, Nat.reduceAdd, Int.reduceBEq, Int.reduceBNe, Int.reduceLT, Zu, Ya, tup, tyf]
        refine hB [(1, .pointer (some ⟨h.length, 0, none⟩)), (2, .slice none 0 0), (3, out), (4, Zx (s : Nat)), (5, .pointer (some ⟨hp.length, 0, none⟩)), (24, Zx (n : Nat)), (25, Zx (k : Nat))] _ _ ?_ (by simp (maxSteps := 2000000) only [↓Za, ↓Zo, ↓Zr, ↓Ze, ↓Zi, ↓Zs, ↓Zf, ↓Zl, ↓Zg, ↓Zc, ↓Zb, ↓vdn, vup, Zh, Zk, Zm, Zn, Zj, List.map_cons, List.map_nil, cond_true, cond_false, aop, Zv, Zq, Zp, ev, sput, Zt, Zz, Yb, unK, Zd, Zw, Nat.reduceBEq, Nat.reduceAdd, Int.reduceBEq, Int.reduceBNe, Int.reduceLT, Zu, Ya, tup, tyf])
        clear hB
        try clear B
        refine Yd ?_
        simp (maxSteps := 2000000) only [s60, ↓Za, ↓Zo, ↓Zr, ↓Ze, ↓Zi, ↓Zs, ↓Zf, ↓Zl, ↓Zg, ↓Zc, ↓Zb, ↓vdn, vup, Zh, Zk, Zm, Zn, Zj, List.map_cons, List.map_nil, cond_true, cond_false, aop, Zv, Zq, Zp, ev, sput, Zt, Zz, Yb, unK, Zd, Zw, Nat.reduceBEq, Nat.reduceAdd, Int.reduceBEq, Int.reduceBNe, Int.reduceLT, Zu, Ya, tup, tyf, add1 (show k < 9223372036854775807 by omega)]
        exact hQb _ _ _ ⟨(k + 1, wv, G), ⟨hk', g5, by simp only; rw [hnx]; exact how, hEG, hbw⟩, by simp only; omega, by simp (maxSteps := 2000000) only [↓Za, ↓Zo, ↓Zr, ↓Ze, ↓Zi, ↓Zs, ↓Zf, ↓Zl, ↓Zg, ↓Zc, ↓Zb, ↓vdn, vup, Zh, Zk, Zm, Zn, Zj, List.map_cons, List.map_nil, cond_true, cond_false, aop, Zv, Zq, Zp, ev, sput, Zt, Zz, Yb, unK, Zd, Zw, Nat.reduceBEq, Nat.reduceAdd, Int.reduceBEq, Int.reduceBNe, Int.reduceLT, Zu, Ya, tup, tyf], rfl⟩
      | true =>
        rw [hbit, if_pos rfl] at hnx
        refine Wc rfl ?_
        refine Yd ?_
        simp (maxSteps := 2000000) only [s60, ↓Za, ↓Zo, ↓Zr, ↓Ze, ↓Zi, ↓Zs, ↓Zf, ↓Zl, ↓Zg, ↓Zc, ↓Zb, ↓vdn, vup, Zh, Zk, Zm, Zn, Zj, List.map_cons, List.map_nil, cond_true, cond_false, aop, Zv, Zq, Zp, ev, sput, Zt, Zz, Yb, unK, Zd, Zw, Nat.reduceBEq, Nat.reduceAdd, Int.reduceBEq, Int.reduceBNe, Int.reduceLT, Zu, Ya, tup, tyf, load1 g5 Vb, litI1]
        have hwl := worldsTo_le s k
        refine OwnSl.append (x := (k : Int)) (how.ext (S := fun _ => False) (Ext.app _ _ _) (fun _ _ => id)) app_38_38 (by rw [castI_len]; omega) (Xb _ _) ?_
        intro wv' G' ho' hE' hb'
        rw [← castI_snoc, ← hnx] at ho'
        have g5' : G'[hp.length]? = some (.cells [wv] 38 false) := by
          rw [hE'.2 _ (by rw [List.length_append]; have := Yp g5; omega) (fun hc => by have := hbw _ hc; omega)]
          exact Wa g5 _
        have hone : one wv' = true := ho'.notI.2
        have hE2 : Ext (fun _ => False) hp G' := ext_app hEG (H' := G ++ [Blk.ints [(k : Int)] 3 false]) (by simp) (fun q hq => List.getElem?_append_left (by have := hEG.1; omega)) (fun b hb => by have := hbw b hb; omega) hE'
        have hbw' : ∀ b, Yq wv' = some b → hp.length < b := fun b hb => by
          rcases hb' with h1 | ⟨b', h1, h2⟩
          · exact hbw b (h1 ▸ hb)
          · rw [h1] at hb; cases hb
            rw [List.length_append] at h2
            have := Yp g5; omega
        simp (maxSteps := 2000000) only [s60, ↓Za, ↓Zo, ↓Zr, ↓Ze, ↓Zi, ↓Zs, ↓Zf, ↓Zl, ↓Zg, ↓Zc, ↓Zb, ↓vdn, vup, Zh, Zk, Zm, Zn, Zj, List.map_cons, List.map_nil, cond_true, cond_false, aop, Zv, Zq, Zp, ev, sput, Zt, Zz, Yb, unK, Zd, Zw, Nat.reduceBEq, Nat.reduceAdd, Int.reduceBEq, Int.reduceBNe, Int.reduceLT, Zu, Ya, tup, tyf, store1 g5' Vb hone]
        refine hB [(1, .pointer (some ⟨h.length, 0, none⟩)), (2, .slice none 0 0), (3, out), (4, Zx (s : Nat)), (5, .pointer (some ⟨hp.length, 0, none⟩)), (24, Zx (n : Nat)), (25, Zx (k : Nat))] _ _ ?_ (by simp (maxSteps := 2000000) only [↓Za, ↓Zo, ↓Zr, ↓Ze, ↓Zi, ↓Zs, ↓Zf, ↓Zl, ↓Zg, ↓Zc, ↓Zb, ↓vdn, vup, Zh, Zk, Zm, Zn, Zj, List.map_cons, List.map_nil, cond_true, cond_false, aop, Zv, Zq, Zp, ev, sput, Zt, Zz, Yb, unK, Zd, Zw, Nat.reduceBEq, Nat.reduceAdd, Int.reduceBEq, Int.reduceBNe, Int.reduceLT, Zu, Ya, tup, tyf])
        clear hB
        try clear B
        refine Yd ?_
        simp (maxSteps := 2000000) only [s60, ↓Za, ↓Zo, ↓Zr, ↓Ze, ↓Zi, ↓Zs, ↓Zf, ↓Zl, ↓Zg, ↓Zc, ↓Zb, ↓vdn, vup, Zh, Zk, Zm, Zn, Zj, List.map_cons, List.map_nil, cond_true, cond_false, aop, Zv, Zq, Zp, ev, sput, Zt, Zz, Yb, unK, Zd, Zw, Nat.reduceBEq, Nat.reduceAdd, Int.reduceBEq, Int.reduceBNe, Int.reduceLT, Zu, Ya, tup, tyf, add1 (show k < 9223372036854775807 by omega)]
        refine hQb _ _ _ ⟨(k + 1, wv', G'.set hp.length (.cells [wv'] 38 false)), ⟨hk', Xq (Yp g5') _, ?_, hE2.set_ge (Nat.le_refl _) _, hbw'⟩, by simp only; omega, by simp (maxSteps := 2000000) only [↓Za, ↓Zo, ↓Zr, ↓Ze, ↓Zi, ↓Zs, ↓Zf, ↓Zl, ↓Zg, ↓Zc, ↓Zb, ↓vdn, vup, Zh, Zk, Zm, Zn, Zj, List.map_cons, List.map_nil, cond_true, cond_false, aop, Zv, Zq, Zp, ev, sput, Zt, Zz, Yb, unK, Zd, Zw, Nat.reduceBEq, Nat.reduceAdd, Int.reduceBEq, Int.reduceBNe, Int.reduceLT, Zu, Ya, tup, tyf], rfl⟩
        exact ho'.ext (S := fun b => b = hp.length) (Ext.set _ rfl) (fun b hb hc => by have := hbw' b hb; omega)
    have hkn := loopEnd hkin hk
    subst hkn
    refine Zy fun N11 hN11 => ?_
    simp (maxSteps := 2000000) only [s60, ↓Za, ↓Zo, ↓Zr, ↓Ze, ↓Zi, ↓Zs, ↓Zf, ↓Zl, ↓Zg, ↓Zc, ↓Zb, ↓vdn, vup, Zh, Zk, Zm, Zn, Zj, List.map_cons, List.map_nil, cond_true, cond_false, aop, Zv, Zq, Zp, ev, sput, Zt, Zz, Yb, unK, Zd, Zw, Nat.reduceBEq, Nat.reduceAdd, Int.reduceBEq, Int.reduceBNe, Int.reduceLT, Zu, Ya, tup, tyf, hkin]
    refine hN11 [(1, .pointer (some ⟨h.length, 0, none⟩)), (2, .slice none 0 0), (3, out), (4, Zx (s : Nat)), (5, .pointer (some ⟨hp.length, 0, none⟩)), (24, Zx (n : Nat)), (25, Zx (n : Nat)), (26, .bool false)] _ _ ?_ (by simp (maxSteps := 2000000) only [↓Za, ↓Zo, ↓Zr, ↓Ze, ↓Zi, ↓Zs, ↓Zf, ↓Zl, ↓Zg, ↓Zc, ↓Zb, ↓vdn, vup, Zh, Zk, Zm, Zn, Zj, List.map_cons, List.map_nil, cond_true, cond_false, aop, Zv, Zq, Zp, ev, sput, Zt, Zz, Yb, unK, Zd, Zw, Nat.reduceBEq, Nat.reduceAdd, Int.reduceBEq, Int.reduceBNe, Int.reduceLT, Zu, Ya, tup, tyf])
    clear hN11
    try clear N11
    refine Zy fun N12 hN12 => ?_
    simp (maxSteps := 2000000) only [s60, ↓Za, ↓Zo, ↓Zr, ↓Ze, ↓Zi, ↓Zs, ↓Zf, ↓Zl, ↓Zg, ↓Zc, ↓Zb, ↓vdn, vup, Zh, Zk, Zm, Zn, Zj, List.map_cons, List.map_nil, cond_true, cond_false, aop, Zv, Zq, Zp, ev, sput, Zt, Zz, Yb, unK, Zd, Zw, Nat.reduceBEq, Nat.reduceAdd, Int.reduceBEq, Int.reduceBNe, Int.reduceLT, Zu, Ya, tup, tyf]
    refine hQb _ _ _ (hQa _ _ _ ?_)
    simp (maxSteps := 2000000) only [s60, ↓Za, ↓Zo, ↓Zr, ↓Ze, ↓Zi, ↓Zs, ↓Zf, ↓Zl, ↓Zg, ↓Zc, ↓Zb, ↓vdn, vup, Zh, Zk, Zm, Zn, Zj, List.map_cons, List.map_nil, cond_true, cond_false, aop, Zv, Zq, Zp, ev, sput, Zt, Zz, Yb, unK, Zd, Zw, Nat.reduceBEq, Nat.reduceAdd, Int.reduceBEq, Int.reduceBNe, Int.reduceLT, Zu, Ya, tup, tyf, if_true]
    refine hX [(1, .pointer (some ⟨h.length, 0, none⟩)), (2, .slice none 0 0), (3, out), (4, Zx (s : Nat)), (5, .pointer (some ⟨hp.length, 0, none⟩)), (26, .bool false)] _ _ ?_ (by simp (maxSteps := 2000000) only [↓Za, ↓Zo, ↓Zr, ↓Ze, ↓Zi, ↓Zs, ↓Zf, ↓Zl, ↓Zg, ↓Zc, ↓Zb, ↓vdn, vup, Zh, Zk, Zm, Zn, Zj, List.map_cons, List.map_nil, cond_true, cond_false, aop, Zv, Zq, Zp, ev, sput, Zt, Zz, Yb, unK, Zd, Zw, Nat.reduceBEq, Nat.reduceAdd, Int.reduceBEq, Int.reduceBNe, Int.reduceLT, Zu, Ya, tup, tyf])
    clear hX
    try clear X
    obtain ⟨W, hW⟩ : ∃ W, W = Vq s n := ⟨_, rfl⟩
    have hWN : Ww n s = W := hW.symm
    have hWl : W.length ≤ n := by rw [hW]; exact worldsTo_le s n
    have hW1 : 1 ≤ W.length := by rw [← hWN]; exact worldsN_pos hs1 hs'
    have hWlt : ∀ w ∈ W, w < n := fun w hw => (worldsTo_lt (by rw [← hW]; exact hw)).1
    have htm := htame s hs1 hs'
    rw [hWN] at htm
    rw [← hW] at how
    obtain ⟨T, hT⟩ : ∃ T, T = sysB n l W := ⟨_, rfl⟩
    have hcorner : cornerB n l s = (solveT (l.length + 1) W.length T).bind fun x => if x.any (fun q => decide (q < 0)) then none else some (Ws n W x W.length) := by rw [cornerB, hWN, hT]
    rw [← hT] at htm
    clear hW hQa hQb
    refine Zy fun N13 hN13 => ?_
    simp (maxSteps := 2000000) only [s60, ↓Za, ↓Zo, ↓Zr, ↓Ze, ↓Zi, ↓Zs, ↓Zf, ↓Zl, ↓Zg, ↓Zc, ↓Zb, ↓vdn, vup, Zh, Zk, Zm, Zn, Zj, List.map_cons, List.map_nil, cond_true, cond_false, aop, Zv, Zq, Zp, ev, sput, Zt, Zz, Yb, unK, Zd, Zw, Nat.reduceBEq, Nat.reduceAdd, Int.reduceBEq, Int.reduceBNe, Int.reduceLT, Zu, Ya, tup, tyf, List.map_toArray]
    refine hN13 [(1, .pointer (some ⟨h.length, 0, none⟩)), (2, .slice none 0 0), (3, out), (4, Zx (s : Nat)), (5, .pointer (some ⟨hp.length, 0, none⟩)), (7, .func (.func 100) #[] #[.pointer (some ⟨hp.length, 0, none⟩)]), (26, .bool false)] _ _ ?_ (by simp (maxSteps := 2000000) only [↓Za, ↓Zo, ↓Zr, ↓Ze, ↓Zi, ↓Zs, ↓Zf, ↓Zl, ↓Zg, ↓Zc, ↓Zb, ↓vdn, vup, Zh, Zk, Zm, Zn, Zj, List.map_cons, List.map_nil, cond_true, cond_false, aop, Zv, Zq, Zp, ev, sput, Zt, Zz, Yb, unK, Zd, Zw, Nat.reduceBEq, Nat.reduceAdd, Int.reduceBEq, Int.reduceBNe, Int.reduceLT, Zu, Ya, tup, tyf])
    clear hN13
    try clear N13
    -- the first row
    have hpG : hp.length < G.length := Yp g5
    have t1G : G[h.length]? = some (.cells [Zx (n : Nat), v] 86 false) := (hEG.2 _ (Yp t1p) id).trans t1p
    refine Zy fun N14 hN14 => ?_
    simp only [q60_13]
    refine Xd [(5, 1), (6, 4)] (by kernel_rfl) (by kernel_rfl) (by kernel_rfl) (by kernel_rfl) ?_
    simp (maxSteps := 2000000) only [s60, ↓Za, ↓Zo, ↓Zr, ↓Ze, ↓Zi, ↓Zs, ↓Zf, ↓Zl, ↓Zg, ↓Zc, ↓Zb, ↓vdn, vup, Zh, Zk, Zm, Zn, Zj, List.map_cons, List.map_nil, cond_true, cond_false, aop, Zv, Zq, Zp, ev, sput, Zt, Zz, Yb, unK, Zd, Zw, Nat.reduceBEq, Nat.reduceAdd, Int.reduceBEq, Int.reduceBNe, Int.reduceLT, Zu, Ya, tup, tyf, tA0, loadT0 t1G, Int.natCast_nonneg, hsh, hsub, Yr, List.nil_append, List.append_nil, List.toList_toArray, List.cons_append]
    refine ⟨_, _, (show Xa prog 70 [Zx 1] G (qV ((1 : Int) : Rat)) from whole_call), rfl, ?_⟩
    refine (row_call (q := ((1 : Int) : Rat)) g5 how.int (by omega) (show 2 ^ n - 1 < 9223372036854775808 by omega)).mono ?_
    rintro r0 G1 ⟨x1, x2, x3⟩
    have x2' : OwnP 26 G1 r0 (rowC T W.length 0) := by rw [hT, rowC_sum]; exact x2
    obtain ⟨bb, yy, hr0, -⟩ := Vf x2' rowC_ne
    have lit0 : ∀ K : Value → Yc → Prop, Yw prog G1 103 1 [(0, r0)] K = K (.slice (some ⟨G1.length, 0, none⟩) 1 1) (G1 ++ [.cells [r0] 47 false]) := fun K => by rw [hr0]; exact litV el_103 zero_47 esz_47
    simp (maxSteps := 2000000) only [s60, ↓Za, ↓Zo, ↓Zr, ↓Ze, ↓Zi, ↓Zs, ↓Zf, ↓Zl, ↓Zg, ↓Zc, ↓Zb, ↓vdn, vup, Zh, Zk, Zm, Zn, Zj, List.map_cons, List.map_nil, cond_true, cond_false, aop, Zv, Zq, Zp, ev, sput, Zt, Zz, Yb, unK, Zd, Zw, Nat.reduceBEq, Nat.reduceAdd, Int.reduceBEq, Int.reduceBNe, Int.reduceLT, Zu, Ya, tup, tyf, lit0]
    refine hN14 [(1, .pointer (some ⟨h.length, 0, none⟩)), (2, .slice none 0 0), (3, out), (4, Zx (s : Nat)), (5, .pointer (some ⟨hp.length, 0, none⟩)), (7, .func (.func 100) #[] #[.pointer (some ⟨hp.length, 0, none⟩)]), (8, .slice (some ⟨G1.length, 0, none⟩) 1 1), (26, .bool false)] _ _ ?_ (by simp (maxSteps := 2000000) only [↓Za, ↓Zo, ↓Zr, ↓Ze, ↓Zi, ↓Zs, ↓Zf, ↓Zl, ↓Zg, ↓Zc, ↓Zb, ↓vdn, vup, Zh, Zk, Zm, Zn, Zj, List.map_cons, List.map_nil, cond_true, cond_false, aop, Zv, Zq, Zp, ev, sput, Zt, Zz, Yb, unK, Zd, Zw, Nat.reduceBEq, Nat.reduceAdd, Int.reduceBEq, Int.reduceBNe, Int.reduceLT, Zu, Ya, tup, tyf])
    clear hN14
    try clear N14
    have hbr0 : Yq r0 = some bb := by rw [hr0]; rfl
    have hbb := x3 bb hbr0
    have R0 : Rows hp.length (G1 ++ [.cells [r0] 47 false]) (.slice (some ⟨G1.length, 0, none⟩) 1 1) [r0] W.length T := by
      obtain ⟨b2, y2, e1, e2⟩ := Vf x2' rowC_ne
      have hbl : bb < G1.length := by rw [e1] at hbr0; cases hbr0; exact Yp e2
      refine ⟨.inl ⟨_, rfl, Xb _ _⟩, by simp, fun i hi => ?_, fun i j hi hj _ => ?_, fun i hi hc => ?_, ⟨fun b hb => ?_, fun i b hi hb => ?_⟩⟩
      · obtain rfl : i = 0 := by simpa using hi
        exact x2'.ext (Ext.app _ _ _)
      · simp at hi hj; omega
      · obtain rfl : i = 0 := by simpa using hi
        simp only [List.getD, List.getElem?_cons_zero, Option.getD_some, hbr0] at hc
        cases hc; omega
      · cases hb; have := x1.1; omega
      · obtain rfl : i = 0 := by simpa using hi
        simp only [List.getD, List.getElem?_cons_zero, Option.getD_some, hbr0] at hb
        cases hb; omega
    have how0 : OwnSl 3 (G1 ++ [.cells [r0] 47 false]) wv (castI W) := how.ext (S := fun _ => False) (x1.trans (Ext.app _ _ _)) (fun _ _ => id)
    have g50 : (G1 ++ [Blk.cells [r0] 47 false])[hp.length]? = some (.cells [wv] 38 false) := Wa ((x1.2 _ hpG id).trans g5) _
    have hE0 : Ext (fun _ => False) hp (G1 ++ [.cells [r0] 47 false]) := hEG.trans (x1.trans (Ext.app _ _ _))
    clear x1 x2 x2' x3 lit0 g5 how hEG t1G b5 hE1 hH1 hH1l H1
    have tI : ∀ G : Yc, Ext (fun _ => False) hp G → G[h.length]? = some (.cells [Zx (n : Nat), v] 86 false) ∧ PairSl G v l := fun G hx => ⟨(hx.2 _ (Yp t1p) id).trans t1p, hv.ext (hE.trans (hEp.trans hx))⟩
    -- a row for each bet
    refine Ye fun X hX => ?_
    refine Zy fun N15 hN15 => ?_
    simp (maxSteps := 2000000) only [s60, ↓Za, ↓Zo, ↓Zr, ↓Ze, ↓Zi, ↓Zs, ↓Zf, ↓Zl, ↓Zg, ↓Zc, ↓Zb, ↓vdn, vup, Zh, Zk, Zm, Zn, Zj, List.map_cons, List.map_nil, cond_true, cond_false, aop, Zv, Zq, Zp, ev, sput, Zt, Zz, Yb, unK, Zd, Zw, Nat.reduceBEq, Nat.reduceAdd, Int.reduceBEq, Int.reduceBNe, Int.reduceLT, Zu, Ya, tup, tyf, tA1, loadT1 (tI _ hE0).1, hv.len]
    refine hN15 [(1, .pointer (some ⟨h.length, 0, none⟩)), (2, .slice none 0 0), (3, out), (4, Zx (s : Nat)), (5, .pointer (some ⟨hp.length, 0, none⟩)), (7, .func (.func 100) #[] #[.pointer (some ⟨hp.length, 0, none⟩)]), (8, .slice (some ⟨G1.length, 0, none⟩) 1 1), (26, .bool false), (48, v), (49, Zx l.length), (50, .int .i64 0)] _ _ ?_ (by simp (maxSteps := 2000000) only [↓Za, ↓Zo, ↓Zr, ↓Ze, ↓Zi, ↓Zs, ↓Zf, ↓Zl, ↓Zg, ↓Zc, ↓Zb, ↓vdn, vup, Zh, Zk, Zm, Zn, Zj, List.map_cons, List.map_nil, cond_true, cond_false, aop, Zv, Zq, Zp, ev, sput, Zt, Zz, Yb, unK, Zd, Zw, Nat.reduceBEq, Nat.reduceAdd, Int.reduceBEq, Int.reduceBNe, Int.reduceLT, Zu, Ya, tup, tyf])
    clear hN15
    try clear N15
    refine Yf ?_
    refine Yh fun Qa hQa => ?_
    refine Yv (γ := Nat × Value × List Value × Yc) (fun g => g.1 ≤ l.length ∧ g.2.2.1.length = g.1 + 1 ∧ Rows hp.length g.2.2.2 g.2.1 g.2.2.1 W.length T ∧ (1 ≤ g.1 → OwnV 47 g.2.2.2 g.2.1 g.2.2.1) ∧ Ext (fun _ => False) hp g.2.2.2 ∧ g.2.2.2[hp.length]? = some (.cells [wv] 38 false) ∧ OwnSl 3 g.2.2.2 wv (castI W))
      (fun g => ([(1, .pointer (some ⟨h.length, 0, none⟩)), (2, .slice none 0 0), (3, out), (4, Zx (s : Nat)), (5, .pointer (some ⟨hp.length, 0, none⟩)), (7, .func (.func 100) #[] #[.pointer (some ⟨hp.length, 0, none⟩)]), (8, g.2.1), (26, .bool false), (48, v), (49, Zx l.length), (50, Zx (g.1 : Nat))], g.2.2.2)) (fun g => l.length - g.1) (0, .slice (some ⟨G1.length, 0, none⟩) 1 1, [r0], G1 ++ [.cells [r0] 47 false]) ⟨Nat.zero_le _, rfl, R0, fun h0 => absurd h0 (by simp), hE0, g50, how0⟩ (by simp (maxSteps := 2000000) only [↓Za, ↓Zo, ↓Zr, ↓Ze, ↓Zi, ↓Zs, ↓Zf, ↓Zl, ↓Zg, ↓Zc, ↓Zb, ↓vdn, vup, Zh, Zk, Zm, Zn, Zj, List.map_cons, List.map_nil, cond_true, cond_false, aop, Zv, Zq, Zp, ev, sput, Zt, Zz, Yb, unK, Zd, Zw, Nat.reduceBEq, Nat.reduceAdd, Int.reduceBEq, Int.reduceBNe, Int.reduceLT, Zu, Ya, tup, tyf, Int.natCast_zero]) rfl ?_
    rintro ⟨i, q, ws, G⟩ ⟨hi, hwsl, R, hOwn, hEG, g5, how⟩
    simp only at hi hwsl R hOwn hEG g5 how
    refine Yh fun Qb hQb => ?_
    simp only [l60_1]
    have sepq : Yq q ≠ some hp.length ∧ ∀ b, Yq wv = some b → Yq q ≠ some b := by
      obtain ⟨bq, cq, e1, e2, e3⟩ := R.sl.blk R.ne
      refine ⟨fun hc => ?_, fun b hb hc => ?_⟩
      · rw [e1] at hc; cases hc
        rw [g5] at e2; cases e2
      · rw [e1] at hc; cases hc
        obtain ⟨ys, e4⟩ := how.ints hb
        rw [e4] at e2; cases e2
    by_cases hiin : (i : Int) < l.length
    · have hi' : i < l.length := by omega
      obtain ⟨tG, hvG⟩ := tI G hEG
      obtain ⟨⟨x, y⟩, hxy⟩ : ∃ p, l.getD i (0, 0) = p := ⟨_, rfl⟩
      have hb := hok i hi'
      rw [hxy] at hb
      simp only [okB, Bool.and_eq_true, decide_eq_true_eq] at hb
      obtain ⟨e, he⟩ : ∃ e : Nat, x = e := ⟨x.toNat, by omega⟩
      subst he
      have hee : e < 2 ^ n := by
        have := hb.2.1
        exact_mod_cast this
      refine Zy fun N16 hN16 => ?_
      simp (maxSteps := 2000000) only [s60, ↓Za, ↓Zo, ↓Zr, ↓Ze, ↓Zi, ↓Zs, ↓Zf, ↓Zl, ↓Zg, ↓Zc, ↓Zb, ↓vdn, vup, Zh, Zk, Zm, Zn, Zj, List.map_cons, List.map_nil, cond_true, cond_false, aop, Zv, Zq, Zp, ev, sput, Zt, Zz, Yb, unK, Zd, Zw, Nat.reduceBEq, Nat.reduceAdd, Int.reduceBEq, Int.reduceBNe, Int.reduceLT, Zu, Ya, tup, tyf, hiin]
      refine hN16 [(1, .pointer (some ⟨h.length, 0, none⟩)), (2, .slice none 0 0), (3, out), (4, Zx (s : Nat)), (5, .pointer (some ⟨hp.length, 0, none⟩)), (7, .func (.func 100) #[] #[.pointer (some ⟨hp.length, 0, none⟩)]), (8, q), (26, .bool false), (48, v), (49, Zx l.length), (50, Zx (i : Nat)), (51, .bool true)] _ _ ?_ (by simp (maxSteps := 2000000) only [↓Za, ↓Zo, ↓Zr, ↓Ze, ↓Zi, ↓Zs, ↓Zf, ↓Zl, ↓Zg, ↓Zc, ↓Zb, ↓vdn, vup, Zh, Zk, Zm, Zn, Zj, List.map_cons, List.map_nil, cond_true, cond_false, aop, Zv, Zq, Zp, ev, sput, Zt, Zz, Yb, unK, Zd, Zw, Nat.reduceBEq, Nat.reduceAdd, Int.reduceBEq, Int.reduceBNe, Int.reduceLT, Zu, Ya, tup, tyf])
      clear hN16
      try clear N16
      refine Zy fun N17 hN17 => ?_
      simp (maxSteps := 2000000) only [s60, ↓Za, ↓Zo, ↓Zr, ↓Ze, ↓Zi, ↓Zs, ↓Zf, ↓Zl, ↓Zg, ↓Zc, ↓Zb, ↓vdn, vup, Zh, Zk, Zm, Zn, Zj, List.map_cons, List.map_nil, cond_true, cond_false, aop, Zv, Zq, Zp, ev, sput, Zt, Zz, Yb, unK, Zd, Zw, Nat.reduceBEq, Nat.reduceAdd, Int.reduceBEq, Int.reduceBNe, Int.reduceLT, Zu, Ya, tup, tyf]
      refine hN17 [(1, .pointer (some ⟨h.length, 0, none⟩)), (2, .slice none 0 0), (3, out), (4, Zx (s : Nat)), (5, .pointer (some ⟨hp.length, 0, none⟩)), (7, .func (.func 100) #[] #[.pointer (some ⟨hp.length, 0, none⟩)]), (8, q), (26, .bool false), (48, v), (49, Zx l.length), (50, Zx (i : Nat))] _ _ ?_ (by simp (maxSteps := 2000000) only [↓Za, ↓Zo, ↓Zr, ↓Ze, ↓Zi, ↓Zs, ↓Zf, ↓Zl, ↓Zg, ↓Zc, ↓Zb, ↓vdn, vup, Zh, Zk, Zm, Zn, Zj, List.map_cons, List.map_nil, cond_true, cond_false, aop, Zv, Zq, Zp, ev, sput, Zt, Zz, Yb, unK, Zd, Zw, Nat.reduceBEq, Nat.reduceAdd, Int.reduceBEq, Int.reduceBNe, Int.reduceLT, Zu, Ya, tup, tyf])
      clear hN17
      try clear N17
      refine Ye fun B hB => ?_
      refine Yf ?_
      obtain ⟨G2, hG2⟩ : ∃ G2, G2 = G ++ [bB e y] := ⟨_, rfl⟩
      have c10 : G2[G.length]? = some (bB e y) := by rw [hG2]; exact Xb _ _
      have hE2 : Ext (fun _ => False) G G2 := by rw [hG2]; exact Ext.app _ _ _
      have hG2l : G2.length = G.length + 1 := by rw [hG2]; simp
      refine Zy fun N18 hN18 => ?_
      simp (maxSteps := 2000000) only [s60, ↓Za, ↓Zo, ↓Zr, ↓Ze, ↓Zi, ↓Zs, ↓Zf, ↓Zl, ↓Zg, ↓Zc, ↓Zb, ↓vdn, vup, Zh, Zk, Zm, Zn, Zj, List.map_cons, List.map_nil, cond_true, cond_false, aop, Zv, Zq, Zp, ev, sput, Zt, Zz, Yb, unK, Zd, Zw, Nat.reduceBEq, Nat.reduceAdd, Int.reduceBEq, Int.reduceBNe, Int.reduceLT, Zu, Ya, tup, tyf, hvG.idx el_30 esz_92 hi', hvG.load shp_92 hi', hxy, Xw, Xe, zero_92, storeBt (Xb G zB) rfl, Wp]
      rw [← hG2]
      refine hN18 [(1, .pointer (some ⟨h.length, 0, none⟩)), (2, .slice none 0 0), (3, out), (4, Zx (s : Nat)), (5, .pointer (some ⟨hp.length, 0, none⟩)), (7, .func (.func 100) #[] #[.pointer (some ⟨hp.length, 0, none⟩)]), (8, q), (10, .pointer (some ⟨G.length, 0, none⟩)), (26, .bool false), (48, v), (49, Zx l.length), (50, Zx (i : Nat))] _ _ ?_ (by simp (maxSteps := 2000000) only [↓Za, ↓Zo, ↓Zr, ↓Ze, ↓Zi, ↓Zs, ↓Zf, ↓Zl, ↓Zg, ↓Zc, ↓Zb, ↓vdn, vup, Zh, Zk, Zm, Zn, Zj, List.map_cons, List.map_nil, cond_true, cond_false, aop, Zv, Zq, Zp, ev, sput, Zt, Zz, Yb, unK, Zd, Zw, Nat.reduceBEq, Nat.reduceAdd, Int.reduceBEq, Int.reduceBNe, Int.reduceLT, Zu, Ya, tup, tyf])
      clear hN18
      try clear N18
      refine Yd ?_
      simp only [q60_17]
      refine Xd [(6, 1), (7, 4)] (by kernel_rfl) (by kernel_rfl) (by kernel_rfl) (by kernel_rfl) ?_
      simp (maxSteps := 2000000) only [s60, ↓Za, ↓Zo, ↓Zr, ↓Ze, ↓Zi, ↓Zs, ↓Zf, ↓Zl, ↓Zg, ↓Zc, ↓Zb, ↓vdn, vup, Zh, Zk, Zm, Zn, Zj, List.map_cons, List.map_nil, cond_true, cond_false, aop, Zv, Zq, Zp, ev, sput, Zt, Zz, Yb, unK, Zd, Zw, Nat.reduceBEq, Nat.reduceAdd, Int.reduceBEq, Int.reduceBNe, Int.reduceLT, Zu, Ya, tup, tyf, bA0, bA1, loadB0 c10, loadB1 c10, Yr, List.nil_append, List.append_nil, List.toList_toArray, List.cons_append]
      refine ⟨_, _, (show Xa prog 64 [Zx y, Zx 12] G2 (qV (Rat.divInt y 12)) from Wr (by decide) (by omega) (by decide)), rfl, ?_⟩
      refine (row_call (q := Rat.divInt y 12) ((hE2.2 _ (Yp g5) id).trans g5) (how.ext (S := fun _ => False) hE2 (fun _ _ => id)).int (by omega) (show e < 9223372036854775808 by omega)).mono ?_
      rintro rv G3 ⟨x1, x2, x3⟩
      have x2' : OwnP 26 G3 rv (rowC T W.length ws.length) := by
        rw [hwsl, hT, rowC_bet, hxy]; exact x2
      obtain ⟨bb, yy, hrv, -⟩ := Vf x2' rowC_ne
      have lit0 : ∀ K : Value → Yc → Prop, Yw prog G3 103 1 [(0, rv)] K = K (.slice (some ⟨G3.length, 0, none⟩) 1 1) (G3 ++ [.cells [rv] 47 false]) := fun K => by rw [hrv]; exact litV el_103 zero_47 esz_47
      simp (maxSteps := 2000000) only [s60, ↓Za, ↓Zo, ↓Zr, ↓Ze, ↓Zi, ↓Zs, ↓Zf, ↓Zl, ↓Zg, ↓Zc, ↓Zb, ↓vdn, vup, Zh, Zk, Zm, Zn, Zj, List.map_cons, List.map_nil, cond_true, cond_false, aop, Zv, Zq, Zp, ev, sput, Zt, Zz, Yb, unK, Zd, Zw, Nat.reduceBEq, Nat.reduceAdd, Int.reduceBEq, Int.reduceBNe, Int.reduceLT, Zu, Ya, tup, tyf, lit0]
      have hE34 : Ext (fun _ => False) G (G3 ++ [.cells [rv] 47 false]) := hE2.trans (x1.trans (Ext.app _ _ _))
      refine R.more (by omega) (by have := hEG.1; omega) hE34 (x2'.ext (Ext.app _ _ _)) (fun b hb => by have := x3 b hb; omega) (Xb _ _) fun q' h' ho' R' hEa hEb => ?_
      have keep : ∀ b, b < G.length → Yq q ≠ some b → h'[b]? = G[b]? := fun b hb hne => by
        rw [hEb.2 b (by have := hE34.1; omega) hne]; exact hE34.2 b hb id
      have hEh : Ext (fun _ => False) hp h' := by
        refine ⟨by have := hEG.1; have := hE34.1; have := hEa.1; omega, fun z hz _ => ?_⟩
        rw [hEa.2 z (by have := hEG.1; have := hE34.1; omega) (by omega), hE34.2 z (by have := hEG.1; omega) id]
        exact hEG.2 z hz id
      have g5' : h'[hp.length]? = some (.cells [wv] 38 false) := by rw [keep _ (Yp g5) sepq.1]; exact g5
      have how' : OwnSl 3 h' wv (castI W) := how.same fun b hb => keep b (how.lt hb) (sepq.2 b hb)
      refine hB [(1, .pointer (some ⟨h.length, 0, none⟩)), (2, .slice none 0 0), (3, out), (4, Zx (s : Nat)), (5, .pointer (some ⟨hp.length, 0, none⟩)), (7, .func (.func 100) #[] #[.pointer (some ⟨hp.length, 0, none⟩)]), (8, q'), (26, .bool false), (48, v), (49, Zx l.length), (50, Zx (i : Nat))] _ _ ?_ (by simp (maxSteps := 2000000) only [↓Za, ↓Zo, ↓Zr, ↓Ze, ↓Zi, ↓Zs, ↓Zf, ↓Zl, ↓Zg, ↓Zc, ↓Zb, ↓vdn, vup, Zh, Zk, Zm, Zn, Zj, List.map_cons, List.map_nil, cond_true, cond_false, aop, Zv, Zq, Zp, ev, sput, Zt, Zz, Yb, unK, Zd, Zw, Nat.reduceBEq, Nat.reduceAdd, Int.reduceBEq, Int.reduceBNe, Int.reduceLT, Zu, Ya, tup, tyf])
      clear hB
      try clear B
      refine Yd ?_
      simp (maxSteps := 2000000) only [s60, ↓Za, ↓Zo, ↓Zr, ↓Ze, ↓Zi, ↓Zs, ↓Zf, ↓Zl, ↓Zg, ↓Zc, ↓Zb, ↓vdn, vup, Zh, Zk, Zm, Zn, Zj, List.map_cons, List.map_nil, cond_true, cond_false, aop, Zv, Zq, Zp, ev, sput, Zt, Zz, Yb, unK, Zd, Zw, Nat.reduceBEq, Nat.reduceAdd, Int.reduceBEq, Int.reduceBNe, Int.reduceLT, Zu, Ya, tup, tyf, add1 (show i < 9223372036854775807 by omega)]
      exact hQb _ _ _ ⟨(i + 1, q', ws ++ [rv], h'), ⟨hi', by simp [hwsl], R', fun _ => ho', hEh, g5', how'⟩, by simp only; omega, by simp (maxSteps := 2000000) only [↓Za, ↓Zo, ↓Zr, ↓Ze, ↓Zi, ↓Zs, ↓Zf, ↓Zl, ↓Zg, ↓Zc, ↓Zb, ↓vdn, vup, Zh, Zk, Zm, Zn, Zj, List.map_cons, List.map_nil, cond_true, cond_false, aop, Zv, Zq, Zp, ev, sput, Zt, Zz, Yb, unK, Zd, Zw, Nat.reduceBEq, Nat.reduceAdd, Int.reduceBEq, Int.reduceBNe, Int.reduceLT, Zu, Ya, tup, tyf], rfl⟩
    have hil := loopEnd hiin hi
    subst hil
    refine Zy fun N19 hN19 => ?_
    simp (maxSteps := 2000000) only [s60, ↓Za, ↓Zo, ↓Zr, ↓Ze, ↓Zi, ↓Zs, ↓Zf, ↓Zl, ↓Zg, ↓Zc, ↓Zb, ↓vdn, vup, Zh, Zk, Zm, Zn, Zj, List.map_cons, List.map_nil, cond_true, cond_false, aop, Zv, Zq, Zp, ev, sput, Zt, Zz, Yb, unK, Zd, Zw, Nat.reduceBEq, Nat.reduceAdd, Int.reduceBEq, Int.reduceBNe, Int.reduceLT, Zu, Ya, tup, tyf, hiin]
    refine hN19 [(1, .pointer (some ⟨h.length, 0, none⟩)), (2, .slice none 0 0), (3, out), (4, Zx (s : Nat)), (5, .pointer (some ⟨hp.length, 0, none⟩)), (7, .func (.func 100) #[] #[.pointer (some ⟨hp.length, 0, none⟩)]), (8, q), (26, .bool false), (48, v), (49, Zx l.length), (50, Zx (l.length : Nat)), (51, .bool false)] _ _ ?_ (by simp (maxSteps := 2000000) only [↓Za, ↓Zo, ↓Zr, ↓Ze, ↓Zi, ↓Zs, ↓Zf, ↓Zl, ↓Zg, ↓Zc, ↓Zb, ↓vdn, vup, Zh, Zk, Zm, Zn, Zj, List.map_cons, List.map_nil, cond_true, cond_false, aop, Zv, Zq, Zp, ev, sput, Zt, Zz, Yb, unK, Zd, Zw, Nat.reduceBEq, Nat.reduceAdd, Int.reduceBEq, Int.reduceBNe, Int.reduceLT, Zu, Ya, tup, tyf])
    clear hN19
    try clear N19
    refine Zy fun N20 hN20 => ?_
    simp (maxSteps := 2000000) only [s60, ↓Za, ↓Zo, ↓Zr, ↓Ze, ↓Zi, ↓Zs, ↓Zf, ↓Zl, ↓Zg, ↓Zc, ↓Zb, ↓vdn, vup, Zh, Zk, Zm, Zn, Zj, List.map_cons, List.map_nil, cond_true, cond_false, aop, Zv, Zq, Zp, ev, sput, Zt, Zz, Yb, unK, Zd, Zw, Nat.reduceBEq, Nat.reduceAdd, Int.reduceBEq, Int.reduceBNe, Int.reduceLT, Zu, Ya, tup, tyf]
    refine hQb _ _ _ (hQa _ _ _ ?_)
    simp (maxSteps := 2000000) only [s60, ↓Za, ↓Zo, ↓Zr, ↓Ze, ↓Zi, ↓Zs, ↓Zf, ↓Zl, ↓Zg, ↓Zc, ↓Zb, ↓vdn, vup, Zh, Zk, Zm, Zn, Zj, List.map_cons, List.map_nil, cond_true, cond_false, aop, Zv, Zq, Zp, ev, sput, Zt, Zz, Yb, unK, Zd, Zw, Nat.reduceBEq, Nat.reduceAdd, Int.reduceBEq, Int.reduceBNe, Int.reduceLT, Zu, Ya, tup, tyf, if_true]
    refine hX [(1, .pointer (some ⟨h.length, 0, none⟩)), (2, .slice none 0 0), (3, out), (4, Zx (s : Nat)), (5, .pointer (some ⟨hp.length, 0, none⟩)), (7, .func (.func 100) #[] #[.pointer (some ⟨hp.length, 0, none⟩)]), (8, q), (26, .bool false), (51, .bool false)] _ _ ?_ (by simp (maxSteps := 2000000) only [↓Za, ↓Zo, ↓Zr, ↓Ze, ↓Zi, ↓Zs, ↓Zf, ↓Zl, ↓Zg, ↓Zc, ↓Zb, ↓vdn, vup, Zh, Zk, Zm, Zn, Zj, List.map_cons, List.map_nil, cond_true, cond_false, aop, Zv, Zq, Zp, ev, sput, Zt, Zz, Yb, unK, Zd, Zw, Nat.reduceBEq, Nat.reduceAdd, Int.reduceBEq, Int.reduceBNe, Int.reduceLT, Zu, Ya, tup, tyf])
    clear hX
    try clear X
    have ho := hOwn hl1
    obtain ⟨B, C, hqe, hBC, hBp, M, hbkp⟩ := R.mat ho
    rw [hwsl] at hqe hBC M hbkp
    -- it is solved
    have hli : (castI W).length = W.length := castI_len W
    have hsolve := solve_call M hBC (by omega) (by omega) hW1 (by omega) htm
    refine Zy fun N21 hN21 => ?_
    simp (maxSteps := 2000000) only [s60, ↓Za, ↓Zo, ↓Zr, ↓Ze, ↓Zi, ↓Zs, ↓Zf, ↓Zl, ↓Zg, ↓Zc, ↓Zb, ↓vdn, vup, Zh, Zk, Zm, Zn, Zj, List.map_cons, List.map_nil, cond_true, cond_false, aop, Zv, Zq, Zp, ev, sput, Zt, Zz, Yb, unK, Zd, Zw, Nat.reduceBEq, Nat.reduceAdd, Int.reduceBEq, Int.reduceBNe, Int.reduceLT, Zu, Ya, tup, tyf, load1 g5 Vb, how.int.len, hli, hqe, Yr, List.nil_append, List.append_nil, List.toList_toArray, List.cons_append]
    refine hsolve.mono ?_
    rintro r G' ⟨hEs, x, ok, rfl, hres⟩
    simp (maxSteps := 2000000) only [s60, ↓Za, ↓Zo, ↓Zr, ↓Ze, ↓Zi, ↓Zs, ↓Zf, ↓Zl, ↓Zg, ↓Zc, ↓Zb, ↓vdn, vup, Zh, Zk, Zm, Zn, Zj, List.map_cons, List.map_nil, cond_true, cond_false, aop, Zv, Zq, Zp, ev, sput, Zt, Zz, Yb, unK, Zd, Zw, Nat.reduceBEq, Nat.reduceAdd, Int.reduceBEq, Int.reduceBNe, Int.reduceLT, Zu, Ya, tup, tyf]
    refine hN21 [(1, .pointer (some ⟨h.length, 0, none⟩)), (2, .slice none 0 0), (3, out), (4, Zx (s : Nat)), (5, .pointer (some ⟨hp.length, 0, none⟩)), (7, .func (.func 100) #[] #[.pointer (some ⟨hp.length, 0, none⟩)]), (11, x), (12, .bool ok), (26, .bool false), (51, .bool false)] _ _ ?_ (by simp (maxSteps := 2000000) only [↓Za, ↓Zo, ↓Zr, ↓Ze, ↓Zi, ↓Zs, ↓Zf, ↓Zl, ↓Zg, ↓Zc, ↓Zb, ↓vdn, vup, Zh, Zk, Zm, Zn, Zj, List.map_cons, List.map_nil, cond_true, cond_false, aop, Zv, Zq, Zp, ev, sput, Zt, Zz, Yb, unK, Zd, Zw, Nat.reduceBEq, Nat.reduceAdd, Int.reduceBEq, Int.reduceBNe, Int.reduceLT, Zu, Ya, tup, tyf])
    clear hN21
    try clear N21
    have hBk : ∀ b, Tch B (l.length + 1) (fun i => bkOf (ws.getD i undef)) b → hp.length ≤ b ∧ b ≠ hp.length ∧ ∀ b', Yq wv = some b' → b ≠ b' := fun b hb => by
      rcases hb with rfl | ⟨j, hj, rfl⟩
      · obtain ⟨us, e2⟩ := M.outer
        refine ⟨hBp, fun hc => ?_, fun b' hb' hc => ?_⟩
        · rw [← hc, e2] at g5
          exact absurd (Blk.cells.inj (Option.some.inj g5)).2.1 (by decide)
        · obtain ⟨ys, e4⟩ := how.ints hb'
          rw [← hc, e2] at e4; cases e4
      · obtain ⟨cc, xs, e1, e3, e2⟩ := M.row j hj
        refine ⟨hbkp j hj, fun hc => ?_, fun b' hb' hc => ?_⟩
        · have e2' : G[bkOf (ws.getD j undef)]? = _ := e2
          have hc' : bkOf (ws.getD j undef) = hp.length := hc
          rw [hc', g5] at e2'; cases e2'
        · obtain ⟨ys, e4⟩ := how.ints hb'
          have e2' : G[bkOf (ws.getD j undef)]? = _ := e2
          have hc' : bkOf (ws.getD j undef) = b' := hc
          rw [hc', e4] at e2'; cases e2'
    have hEG' : Ext (fun _ => False) hp G' := by
      refine ⟨by have := hEG.1; have := hEs.1; omega, fun z hz _ => ?_⟩
      rw [hEs.2 z (by have := hEG.1; omega) (fun hc => by have := (hBk z hc).1; omega)]
      exact hEG.2 z hz id
    have g5' : G'[hp.length]? = some (.cells [wv] 38 false) := by
      rw [hEs.2 _ (Yp g5) (fun hc => (hBk _ hc).2.1 rfl)]; exact g5
    have how' : OwnSl 3 G' wv (castI W) := how.same fun b hb => hEs.2 b (how.lt hb) (fun hc => (hBk _ hc).2.2 b hb rfl)
    have hlen' : G.length ≤ G'.length := hEs.1
    clear hQa hQb M R hOwn sepq ho hsolve hBk hEs hqe g50 how0 hE0 R0 hlen'
    -- the next set
    have goOn : ∀ e out' G2, CornSl G2 out' (Wy n l s) → Ext (fun _ => False) H G2 → (∀ b, Yq out' = some b → H.length ≤ b) → ELe e [(1, .pointer (some ⟨h.length, 0, none⟩)), (2, .slice none 0 0), (3, out'), (4, Zx (s : Nat)), (26, .bool false), (51, .bool false)] → Y e G2 := by
      intro e out' G2 c1 c2 c3 he
      refine hY _ _ _ ?_ he
      refine Yd ?_
      have ea : addV .i64 (s : Int) 1 = ((s + 1 : Nat) : Int) := add1 (by omega)
      simp (maxSteps := 2000000) only [s60, ↓Za, ↓Zo, ↓Zr, ↓Ze, ↓Zi, ↓Zs, ↓Zf, ↓Zl, ↓Zg, ↓Zc, ↓Zb, ↓vdn, vup, Zh, Zk, Zm, Zn, Zj, List.map_cons, List.map_nil, cond_true, cond_false, aop, Zv, Zq, Zp, ev, sput, Zt, Zz, Yb, unK, Zd, Zw, Nat.reduceBEq, Nat.reduceAdd, Int.reduceBEq, Int.reduceBNe, Int.reduceLT, Zu, Ya, tup, tyf, ea]
      exact hQ2 _ _ _ ⟨(s + 1, out', G2), ⟨by simp only; omega, by simp only; omega, by simpa using c1, c2, c3⟩, by simp only; omega, by simp (maxSteps := 2000000) only [↓Za, ↓Zo, ↓Zr, ↓Ze, ↓Zi, ↓Zs, ↓Zf, ↓Zl, ↓Zg, ↓Zc, ↓Zb, ↓vdn, vup, Zh, Zk, Zm, Zn, Zj, List.map_cons, List.map_nil, cond_true, cond_false, aop, Zv, Zq, Zp, ev, sput, Zt, Zz, Yb, unK, Zd, Zw, Nat.reduceBEq, Nat.reduceAdd, Int.reduceBEq, Int.reduceBNe, Int.reduceLT, Zu, Ya, tup, tyf], rfl⟩
    have hcsucc : Wy n l s = Wy n l (s - 1) ++ (cornerB n l s).toList := by
      obtain ⟨s', rfl⟩ : ∃ s', s = s' + 1 := ⟨s - 1, by omega⟩
      rw [Wy]; simp
    have skip : cornerB n l s = none → ∀ e, ELe e [(1, .pointer (some ⟨h.length, 0, none⟩)), (2, .slice none 0 0), (3, out), (4, Zx (s : Nat)), (26, .bool false), (51, .bool false)] → Y e G' := fun h0 e he => goOn e out G' (by rw [hcsucc, h0]; simpa using hcs.ext hEG') (hEp.trans hEG') hbo he
    cases hsol : solveT (l.length + 1) W.length T with
    | none =>
      rw [hsol] at hres hcorner
      simp only at hres
      obtain ⟨rfl, rfl⟩ := hres
      refine Yd ?_
      simp (maxSteps := 2000000) only [s60, ↓Za, ↓Zo, ↓Zr, ↓Ze, ↓Zi, ↓Zs, ↓Zf, ↓Zl, ↓Zg, ↓Zc, ↓Zb, ↓vdn, vup, Zh, Zk, Zm, Zn, Zj, List.map_cons, List.map_nil, cond_true, cond_false, aop, Zv, Zq, Zp, ev, sput, Zt, Zz, Yb, unK, Zd, Zw, Nat.reduceBEq, Nat.reduceAdd, Int.reduceBEq, Int.reduceBNe, Int.reduceLT, Zu, Ya, tup, tyf, Bool.not_false]
      exact skip hcorner _ (by simp (maxSteps := 2000000) only [↓Za, ↓Zo, ↓Zr, ↓Ze, ↓Zi, ↓Zs, ↓Zf, ↓Zl, ↓Zg, ↓Zc, ↓Zb, ↓vdn, vup, Zh, Zk, Zm, Zn, Zj, List.map_cons, List.map_nil, cond_true, cond_false, aop, Zv, Zq, Zp, ev, sput, Zt, Zz, Yb, unK, Zd, Zw, Nat.reduceBEq, Nat.reduceAdd, Int.reduceBEq, Int.reduceBNe, Int.reduceLT, Zu, Ya, tup, tyf])
    | some xs =>
      rw [hsol, Option.bind_some] at hcorner
      rw [hsol] at hres
      simp only at hres
      obtain ⟨rfl, hox, hbx⟩ := hres
      have hxl : xs.length = W.length := solveT_len hsol
      have hany : ((xs.map ofQ).any fun p => decide (p.1 < 0)) = xs.any fun q => decide (q < 0) := by
        rw [List.any_map]
        congr 1
        funext q
        refine decide_eq_decide.2 ?_
        show q.num < 0 ↔ q < 0
        rw [← Rat.not_le, ← Rat.num_nonneg]; omega
      have hneg := hasF_call (g := 102) (cap := #[]) (f := fun p => decide (p.1 < 0)) hox.pair (by simp; omega) (fun h' hx p hp => neg_call)
      rw [hany] at hneg
      refine Ye fun X hX => ?_
      refine Zy fun N22 hN22 => ?_
      simp (maxSteps := 2000000) only [s60, ↓Za, ↓Zo, ↓Zr, ↓Ze, ↓Zi, ↓Zs, ↓Zf, ↓Zl, ↓Zg, ↓Zc, ↓Zb, ↓vdn, vup, Zh, Zk, Zm, Zn, Zj, List.map_cons, List.map_nil, cond_true, cond_false, aop, Zv, Zq, Zp, ev, sput, Zt, Zz, Yb, unK, Zd, Zw, Nat.reduceBEq, Nat.reduceAdd, Int.reduceBEq, Int.reduceBNe, Int.reduceLT, Zu, Ya, tup, tyf, Bool.not_true, Yr, List.nil_append, List.append_nil, List.toList_toArray, List.cons_append]
      refine hneg.mono ?_
      rintro _ G' ⟨rfl, rfl⟩
      refine hN22 [(1, .pointer (some ⟨h.length, 0, none⟩)), (2, .slice none 0 0), (3, out), (4, Zx (s : Nat)), (5, .pointer (some ⟨hp.length, 0, none⟩)), (7, .func (.func 100) #[] #[.pointer (some ⟨hp.length, 0, none⟩)]), (11, x), (12, .bool true), (26, .bool false), (51, .bool false), (77, .bool (xs.any fun q => decide (q < 0)))] _ _ ?_ (by simp (maxSteps := 2000000) only [↓Za, ↓Zo, ↓Zr, ↓Ze, ↓Zi, ↓Zs, ↓Zf, ↓Zl, ↓Zg, ↓Zc, ↓Zb, ↓vdn, vup, Zh, Zk, Zm, Zn, Zj, List.map_cons, List.map_nil, cond_true, cond_false, aop, Zv, Zq, Zp, ev, sput, Zt, Zz, Yb, unK, Zd, Zw, Nat.reduceBEq, Nat.reduceAdd, Int.reduceBEq, Int.reduceBNe, Int.reduceLT, Zu, Ya, tup, tyf])
      clear hN22
      try clear N22
      cases hn : xs.any fun q => decide (q < 0) with
      | true =>
        rw [hn, if_pos rfl] at hcorner
        refine Wc rfl ?_
        refine Yd ?_
        simp (maxSteps := 2000000) only [s60, ↓Za, ↓Zo, ↓Zr, ↓Ze, ↓Zi, ↓Zs, ↓Zf, ↓Zl, ↓Zg, ↓Zc, ↓Zb, ↓vdn, vup, Zh, Zk, Zm, Zn, Zj, List.map_cons, List.map_nil, cond_true, cond_false, aop, Zv, Zq, Zp, ev, sput, Zt, Zz, Yb, unK, Zd, Zw, Nat.reduceBEq, Nat.reduceAdd, Int.reduceBEq, Int.reduceBNe, Int.reduceLT, Zu, Ya, tup, tyf]
        exact skip hcorner _ (by simp (maxSteps := 2000000) only [↓Za, ↓Zo, ↓Zr, ↓Ze, ↓Zi, ↓Zs, ↓Zf, ↓Zl, ↓Zg, ↓Zc, ↓Zb, ↓vdn, vup, Zh, Zk, Zm, Zn, Zj, List.map_cons, List.map_nil, cond_true, cond_false, aop, Zv, Zq, Zp, ev, sput, Zt, Zz, Yb, unK, Zd, Zw, Nat.reduceBEq, Nat.reduceAdd, Int.reduceBEq, Int.reduceBNe, Int.reduceLT, Zu, Ya, tup, tyf])
      | false =>
        rw [hn, if_neg (by decide)] at hcorner
        refine Xs rfl ?_
        refine Yd ?_
        simp (maxSteps := 2000000) only [s60, ↓Za, ↓Zo, ↓Zr, ↓Ze, ↓Zi, ↓Zs, ↓Zf, ↓Zl, ↓Zg, ↓Zc, ↓Zb, ↓vdn, vup, Zh, Zk, Zm, Zn, Zj, List.map_cons, List.map_nil, cond_true, cond_false, aop, Zv, Zq, Zp, ev, sput, Zt, Zz, Yb, unK, Zd, Zw, Nat.reduceBEq, Nat.reduceAdd, Int.reduceBEq, Int.reduceBNe, Int.reduceLT, Zu, Ya, tup, tyf]
        refine hX [(1, .pointer (some ⟨h.length, 0, none⟩)), (2, .slice none 0 0), (3, out), (4, Zx (s : Nat)), (5, .pointer (some ⟨hp.length, 0, none⟩)), (7, .func (.func 100) #[] #[.pointer (some ⟨hp.length, 0, none⟩)]), (11, x), (26, .bool false), (51, .bool false)] _ _ ?_ (by simp (maxSteps := 2000000) only [↓Za, ↓Zo, ↓Zr, ↓Ze, ↓Zi, ↓Zs, ↓Zf, ↓Zl, ↓Zg, ↓Zc, ↓Zb, ↓vdn, vup, Zh, Zk, Zm, Zn, Zj, List.map_cons, List.map_nil, cond_true, cond_false, aop, Zv, Zq, Zp, ev, sput, Zt, Zz, Yb, unK, Zd, Zw, Nat.reduceBEq, Nat.reduceAdd, Int.reduceBEq, Int.reduceBNe, Int.reduceLT, Zu, Ya, tup, tyf])
        clear hX
        try clear X
        obtain ⟨tG, -⟩ := tI G' hEG'
        -- the belief
        obtain ⟨F, hF⟩ : ∃ F : Nat → Yc, F = fun k => G' ++ [.ints [0, 1] 26 false] ++ [.cells ((Ym ((Ws n W xs k).map ofQ)).map Zx) 26 false] := ⟨_, rfl⟩
        have hF0 : ∀ k, (F k)[G'.length + 1]? = some (.cells ((Ym ((Ws n W xs k).map ofQ)).map Zx) 26 false) := fun k => by rw [hF]; exact b2_1 ..
        have hFE : ∀ k, Ext (fun _ => False) G' (F k) := fun k => by rw [hF]; exact e2 ..
        have hFs : ∀ k, (F k).set (G'.length + 1) (.cells ((Ym ((Ws n W xs (k + 1)).map ofQ)).map Zx) 26 false) = F (k + 1) := fun k => by
          simp only [hF]
          rw [show G'.length + 1 = (G' ++ [Blk.ints [0, 1] 26 false]).length by simp, Wp]
        have hFl : ∀ k, (F k).length = G'.length + 2 := fun k => by rw [hF]; simp
        have hF1 : G' ++ [.ints [0, 1] 26 false] ++ [.cells ((Ym (List.replicate n ((0 : Int), (1 : Int)))).map Zx) 26 false] = F 0 := by
          rw [hF]; simp only [Ws, List.map_replicate]; rfl
        have rep := repeat_call (h := G' ++ [.ints [0, 1] 26 false]) (b0 := G'.length) (x := 0) (y := 1) (Xb _ _) (show 1 ≤ n by omega) (show n < 6 by omega)
        rw [hF1, List.length_append, List.length_singleton] at rep
        have q0 : qV ((0 : Int) : Rat) = .agg #[Zx 0, Zx 1] := rfl
        refine Zy fun N23 hN23 => ?_
        simp only [q60_21]
        refine aw_drawR (fun z => z[h.length]? = some (Blk.cells [Zx (n : Nat), v] 86 false)) [(0, 1), (3, 5)] (by kernel_rfl) (by kernel_rfl) (by kernel_rfl) (by kernel_rfl) tG ?_
        simp (maxSteps := 2000000) only [s60, ↓Za, ↓Zo, ↓Zr, ↓Ze, ↓Zi, ↓Zs, ↓Zf, ↓Zl, ↓Zg, ↓Zc, ↓Zb, ↓vdn, vup, Zh, Zk, Zm, Zn, Zj, List.map_cons, List.map_nil, cond_true, cond_false, aop, Zv, Zq, Zp, ev, sput, Zt, Zz, Yb, unK, Zd, Zw, Nat.reduceBEq, Nat.reduceAdd, Int.reduceBEq, Int.reduceBNe, Int.reduceLT, Zu, Ya, tup, tyf, Yr, List.nil_append, List.append_nil, List.toList_toArray, List.cons_append]
        refine ⟨_, _, (show Xa prog 70 [Zx 0] G' (qV ((0 : Int) : Rat)) from whole_call), rfl, ?_⟩
        simp (maxSteps := 2000000) only [s60, ↓Za, ↓Zo, ↓Zr, ↓Ze, ↓Zi, ↓Zs, ↓Zf, ↓Zl, ↓Zg, ↓Zc, ↓Zb, ↓vdn, vup, Zh, Zk, Zm, Zn, Zj, List.map_cons, List.map_nil, cond_true, cond_false, aop, Zv, Zq, Zp, ev, sput, Zt, Zz, Yb, unK, Zd, Zw, Nat.reduceBEq, Nat.reduceAdd, Int.reduceBEq, Int.reduceBNe, Int.reduceLT, Zu, Ya, tup, tyf, q0, litF, tA0, Yr, List.nil_append, List.append_nil, List.toList_toArray, List.cons_append]
        refine ⟨Wa tG _, Zx (n : Nat), fun z hz => by simp only [loadT0 hz], _, _, rep, (hFE 0).2 _ (Yp tG) id |>.trans tG, ?_⟩
        refine hN23 [(1, .pointer (some ⟨h.length, 0, none⟩)), (2, .slice none 0 0), (3, out), (4, Zx (s : Nat)), (5, .pointer (some ⟨hp.length, 0, none⟩)), (7, .func (.func 100) #[] #[.pointer (some ⟨hp.length, 0, none⟩)]), (11, x), (13, .slice (some ⟨G'.length + 1, 0, none⟩) n n), (26, .bool false), (51, .bool false)] _ _ ?_ (by simp (maxSteps := 2000000) only [↓Za, ↓Zo, ↓Zr, ↓Ze, ↓Zi, ↓Zs, ↓Zf, ↓Zl, ↓Zg, ↓Zc, ↓Zb, ↓vdn, vup, Zh, Zk, Zm, Zn, Zj, List.map_cons, List.map_nil, cond_true, cond_false, aop, Zv, Zq, Zp, ev, sput, Zt, Zz, Yb, unK, Zd, Zw, Nat.reduceBEq, Nat.reduceAdd, Int.reduceBEq, Int.reduceBNe, Int.reduceLT, Zu, Ya, tup, tyf])
        clear hN23
        try clear N23
        have g5F : ∀ k, (F k)[hp.length]? = some (.cells [wv] 38 false) := fun k => ((hFE k).2 _ (Yp g5') id).trans g5'
        have howF : ∀ k, OwnSl 3 (F k) wv (castI W) := fun k => how'.ext (S := fun _ => False) (hFE k) (fun _ _ => id)
        refine Ye fun U hU => ?_
        refine Zy fun N24 hN24 => ?_
        simp (maxSteps := 2000000) only [s60, ↓Za, ↓Zo, ↓Zr, ↓Ze, ↓Zi, ↓Zs, ↓Zf, ↓Zl, ↓Zg, ↓Zc, ↓Zb, ↓vdn, vup, Zh, Zk, Zm, Zn, Zj, List.map_cons, List.map_nil, cond_true, cond_false, aop, Zv, Zq, Zp, ev, sput, Zt, Zz, Yb, unK, Zd, Zw, Nat.reduceBEq, Nat.reduceAdd, Int.reduceBEq, Int.reduceBNe, Int.reduceLT, Zu, Ya, tup, tyf, load1 (g5F 0) Vb, (howF 0).int.len, hli]
        refine hN24 [(1, .pointer (some ⟨h.length, 0, none⟩)), (2, .slice none 0 0), (3, out), (4, Zx (s : Nat)), (5, .pointer (some ⟨hp.length, 0, none⟩)), (7, .func (.func 100) #[] #[.pointer (some ⟨hp.length, 0, none⟩)]), (11, x), (13, .slice (some ⟨G'.length + 1, 0, none⟩) n n), (26, .bool false), (51, .bool false), (83, wv), (84, Zx (W.length : Nat)), (85, .int .i64 0)] _ _ ?_ (by simp (maxSteps := 2000000) only [↓Za, ↓Zo, ↓Zr, ↓Ze, ↓Zi, ↓Zs, ↓Zf, ↓Zl, ↓Zg, ↓Zc, ↓Zb, ↓vdn, vup, Zh, Zk, Zm, Zn, Zj, List.map_cons, List.map_nil, cond_true, cond_false, aop, Zv, Zq, Zp, ev, sput, Zt, Zz, Yb, unK, Zd, Zw, Nat.reduceBEq, Nat.reduceAdd, Int.reduceBEq, Int.reduceBNe, Int.reduceLT, Zu, Ya, tup, tyf])
        clear hN24
        try clear N24
        refine Yf ?_
        refine Yh fun Qa hQa => ?_
        refine Yv (γ := Nat) (fun k => k ≤ W.length) (fun k => ([(1, .pointer (some ⟨h.length, 0, none⟩)), (2, .slice none 0 0), (3, out), (4, Zx (s : Nat)), (5, .pointer (some ⟨hp.length, 0, none⟩)), (7, .func (.func 100) #[] #[.pointer (some ⟨hp.length, 0, none⟩)]), (11, x), (13, .slice (some ⟨G'.length + 1, 0, none⟩) n n), (26, .bool false), (51, .bool false), (83, wv), (84, Zx (W.length : Nat)), (85, Zx (k : Nat))], F k)) (fun k => W.length - k) 0 (Nat.zero_le _) (by simp (maxSteps := 2000000) only [↓Za, ↓Zo, ↓Zr, ↓Ze, ↓Zi, ↓Zs, ↓Zf, ↓Zl, ↓Zg, ↓Zc, ↓Zb, ↓vdn, vup, Zh, Zk, Zm, Zn, Zj, List.map_cons, List.map_nil, cond_true, cond_false, aop, Zv, Zq, Zp, ev, sput, Zt, Zz, Yb, unK, Zd, Zw, Nat.reduceBEq, Nat.reduceAdd, Int.reduceBEq, Int.reduceBNe, Int.reduceLT, Zu, Ya, tup, tyf, Int.natCast_zero]) rfl ?_
        rintro k hk
        refine Yh fun Qb hQb => ?_
        simp only [l60_2]
        by_cases hkin : (k : Int) < W.length
        · have hk' : k < W.length := by omega
          have hkc : k < (castI W).length := by omega
          have hw : W.getD k 0 < n := hWlt _ (by rw [List.getD, List.getElem?_eq_getElem hk']; exact List.getElem_mem hk')
          have hxF := (hox.ext (hFE k)).pair
          have hkx : k < (xs.map ofQ).length := by rw [List.length_map]; omega
          have hgx : (xs.map ofQ).getD k (0, 0) = ofQ (xs.getD k 0) := by
            rw [List.getD, List.getElem?_map, List.getElem?_eq_getElem (show k < xs.length by omega), List.getD, List.getElem?_eq_getElem (show k < xs.length by omega)]; rfl
          have hslen : ((Ws n W xs k).map ofQ).length = n := by rw [List.length_map, spreadTo_len]
          have pF := Wk (hF0 k)
          rw [hslen] at pF
          have hidx : ∀ K : Value → Prop, Xf prog 90 (.slice (some ⟨G'.length + 1, 0, none⟩) n n) (Zx (W.getD k 0 : Nat)) K = K (.pointer (some ⟨G'.length + 1, W.getD k 0 * 2, none⟩)) := fun K => by
            rw [pF.idx el_90 Vm (by rw [hslen]; exact hw), elemP_pair]
          have hst : ∀ K : Yc → Prop, Xj prog (F k) 26 (.pointer (some ⟨G'.length + 1, W.getD k 0 * 2, none⟩)) (.agg #[Zx (xs.getD k 0).num, Zx ((xs.getD k 0).den : Int)]) K = K (F (k + 1)) := fun K => by
            rw [storePC (hF0 k) shp_26 (by rw [hslen]; exact hw), ← hFs k, Ws, List.map_set]; rfl
          refine Zy fun N25 hN25 => ?_
          simp (maxSteps := 2000000) only [s60, ↓Za, ↓Zo, ↓Zr, ↓Ze, ↓Zi, ↓Zs, ↓Zf, ↓Zl, ↓Zg, ↓Zc, ↓Zb, ↓vdn, vup, Zh, Zk, Zm, Zn, Zj, List.map_cons, List.map_nil, cond_true, cond_false, aop, Zv, Zq, Zp, ev, sput, Zt, Zz, Yb, unK, Zd, Zw, Nat.reduceBEq, Nat.reduceAdd, Int.reduceBEq, Int.reduceBNe, Int.reduceLT, Zu, Ya, tup, tyf, hkin]
          refine hN25 [(1, .pointer (some ⟨h.length, 0, none⟩)), (2, .slice none 0 0), (3, out), (4, Zx (s : Nat)), (5, .pointer (some ⟨hp.length, 0, none⟩)), (7, .func (.func 100) #[] #[.pointer (some ⟨hp.length, 0, none⟩)]), (11, x), (13, .slice (some ⟨G'.length + 1, 0, none⟩) n n), (26, .bool false), (51, .bool false), (83, wv), (84, Zx (W.length : Nat)), (85, Zx (k : Nat)), (86, .bool true)] _ _ ?_ (by simp (maxSteps := 2000000) only [↓Za, ↓Zo, ↓Zr, ↓Ze, ↓Zi, ↓Zs, ↓Zf, ↓Zl, ↓Zg, ↓Zc, ↓Zb, ↓vdn, vup, Zh, Zk, Zm, Zn, Zj, List.map_cons, List.map_nil, cond_true, cond_false, aop, Zv, Zq, Zp, ev, sput, Zt, Zz, Yb, unK, Zd, Zw, Nat.reduceBEq, Nat.reduceAdd, Int.reduceBEq, Int.reduceBNe, Int.reduceLT, Zu, Ya, tup, tyf])
          clear hN25
          try clear N25
          refine Zy fun N26 hN26 => ?_
          simp (maxSteps := 2000000) only [s60, ↓Za, ↓Zo, ↓Zr, ↓Ze, ↓Zi, ↓Zs, ↓Zf, ↓Zl, ↓Zg, ↓Zc, ↓Zb, ↓vdn, vup, Zh, Zk, Zm, Zn, Zj, List.map_cons, List.map_nil, cond_true, cond_false, aop, Zv, Zq, Zp, ev, sput, Zt, Zz, Yb, unK, Zd, Zw, Nat.reduceBEq, Nat.reduceAdd, Int.reduceBEq, Int.reduceBNe, Int.reduceLT, Zu, Ya, tup, tyf]
          refine hN26 [(1, .pointer (some ⟨h.length, 0, none⟩)), (2, .slice none 0 0), (3, out), (4, Zx (s : Nat)), (5, .pointer (some ⟨hp.length, 0, none⟩)), (7, .func (.func 100) #[] #[.pointer (some ⟨hp.length, 0, none⟩)]), (11, x), (13, .slice (some ⟨G'.length + 1, 0, none⟩) n n), (26, .bool false), (51, .bool false), (83, wv), (84, Zx (W.length : Nat)), (85, Zx (k : Nat))] _ _ ?_ (by simp (maxSteps := 2000000) only [↓Za, ↓Zo, ↓Zr, ↓Ze, ↓Zi, ↓Zs, ↓Zf, ↓Zl, ↓Zg, ↓Zc, ↓Zb, ↓vdn, vup, Zh, Zk, Zm, Zn, Zj, List.map_cons, List.map_nil, cond_true, cond_false, aop, Zv, Zq, Zp, ev, sput, Zt, Zz, Yb, unK, Zd, Zw, Nat.reduceBEq, Nat.reduceAdd, Int.reduceBEq, Int.reduceBNe, Int.reduceLT, Zu, Ya, tup, tyf])
          clear hN26
          try clear N26
          refine Ye fun B hB => ?_
          refine Yf ?_
          refine Zy fun N27 hN27 => ?_
          simp (maxSteps := 2000000) only [s60, ↓Za, ↓Zo, ↓Zr, ↓Ze, ↓Zi, ↓Zs, ↓Zf, ↓Zl, ↓Zg, ↓Zc, ↓Zb, ↓vdn, vup, Zh, Zk, Zm, Zn, Zj, List.map_cons, List.map_nil, cond_true, cond_false, aop, Zv, Zq, Zp, ev, sput, Zt, Zz, Yb, unK, Zd, Zw, Nat.reduceBEq, Nat.reduceAdd, Int.reduceBEq, Int.reduceBNe, Int.reduceLT, Zu, Ya, tup, tyf, (howF k).int.idx Xu Xp hkc, (howF k).int.load Xl hkc, castI_getD]
          refine hN27 [(1, .pointer (some ⟨h.length, 0, none⟩)), (2, .slice none 0 0), (3, out), (4, Zx (s : Nat)), (5, .pointer (some ⟨hp.length, 0, none⟩)), (7, .func (.func 100) #[] #[.pointer (some ⟨hp.length, 0, none⟩)]), (11, x), (13, .slice (some ⟨G'.length + 1, 0, none⟩) n n), (14, Zx (k : Nat)), (15, Zx (W.getD k 0 : Nat)), (26, .bool false), (51, .bool false), (83, wv), (84, Zx (W.length : Nat)), (85, Zx (k : Nat))] _ _ ?_ (by simp (maxSteps := 2000000) only [↓Za, ↓Zo, ↓Zr, ↓Ze, ↓Zi, ↓Zs, ↓Zf, ↓Zl, ↓Zg, ↓Zc, ↓Zb, ↓vdn, vup, Zh, Zk, Zm, Zn, Zj, List.map_cons, List.map_nil, cond_true, cond_false, aop, Zv, Zq, Zp, ev, sput, Zt, Zz, Yb, unK, Zd, Zw, Nat.reduceBEq, Nat.reduceAdd, Int.reduceBEq, Int.reduceBNe, Int.reduceLT, Zu, Ya, tup, tyf])
          clear hN27
          try clear N27
          refine Yd ?_
          simp (maxSteps := 2000000) only [s60, ↓Za, ↓Zo, ↓Zr, ↓Ze, ↓Zi, ↓Zs, ↓Zf, ↓Zl, ↓Zg, ↓Zc, ↓Zb, ↓vdn, vup, Zh, Zk, Zm, Zn, Zj, List.map_cons, List.map_nil, cond_true, cond_false, aop, Zv, Zq, Zp, ev, sput, Zt, Zz, Yb, unK, Zd, Zw, Nat.reduceBEq, Nat.reduceAdd, Int.reduceBEq, Int.reduceBNe, Int.reduceLT, Zu, Ya, tup, tyf, hxF.idx el_47 Vm hkx, hxF.load shp_26 hkx, hgx, hidx, ofQ, hst]
          refine hB [(1, .pointer (some ⟨h.length, 0, none⟩)), (2, .slice none 0 0), (3, out), (4, Zx (s : Nat)), (5, .pointer (some ⟨hp.length, 0, none⟩)), (7, .func (.func 100) #[] #[.pointer (some ⟨hp.length, 0, none⟩)]), (11, x), (13, .slice (some ⟨G'.length + 1, 0, none⟩) n n), (26, .bool false), (51, .bool false), (83, wv), (84, Zx (W.length : Nat)), (85, Zx (k : Nat))] _ _ ?_ (by simp (maxSteps := 2000000) only [↓Za, ↓Zo, ↓Zr, ↓Ze, ↓Zi, ↓Zs, ↓Zf, ↓Zl, ↓Zg, ↓Zc, ↓Zb, ↓vdn, vup, Zh, Zk, Zm, Zn, Zj, List.map_cons, List.map_nil, cond_true, cond_false, aop, Zv, Zq, Zp, ev, sput, Zt, Zz, Yb, unK, Zd, Zw, Nat.reduceBEq, Nat.reduceAdd, Int.reduceBEq, Int.reduceBNe, Int.reduceLT, Zu, Ya, tup, tyf])
          clear hB
          try clear B
          refine Yd ?_
          simp (maxSteps := 2000000) only [s60, ↓Za, ↓Zo, ↓Zr, ↓Ze, ↓Zi, ↓Zs, ↓Zf, ↓Zl, ↓Zg, ↓Zc, ↓Zb, ↓vdn, vup, Zh, Zk, Zm, Zn, Zj, List.map_cons, List.map_nil, cond_true, cond_false, aop, Zv, Zq, Zp, ev, sput, Zt, Zz, Yb, unK, Zd, Zw, Nat.reduceBEq, Nat.reduceAdd, Int.reduceBEq, Int.reduceBNe, Int.reduceLT, Zu, Ya, tup, tyf, add1 (show k < 9223372036854775807 by omega)]
          exact hQb _ _ _ ⟨k + 1, hk', by omega, by simp (maxSteps := 2000000) only [↓Za, ↓Zo, ↓Zr, ↓Ze, ↓Zi, ↓Zs, ↓Zf, ↓Zl, ↓Zg, ↓Zc, ↓Zb, ↓vdn, vup, Zh, Zk, Zm, Zn, Zj, List.map_cons, List.map_nil, cond_true, cond_false, aop, Zv, Zq, Zp, ev, sput, Zt, Zz, Yb, unK, Zd, Zw, Nat.reduceBEq, Nat.reduceAdd, Int.reduceBEq, Int.reduceBNe, Int.reduceLT, Zu, Ya, tup, tyf], rfl⟩
        have hkk := loopEnd hkin hk
        subst hkk
        refine Zy fun N28 hN28 => ?_
        simp (maxSteps := 2000000) only [s60, ↓Za, ↓Zo, ↓Zr, ↓Ze, ↓Zi, ↓Zs, ↓Zf, ↓Zl, ↓Zg, ↓Zc, ↓Zb, ↓vdn, vup, Zh, Zk, Zm, Zn, Zj, List.map_cons, List.map_nil, cond_true, cond_false, aop, Zv, Zq, Zp, ev, sput, Zt, Zz, Yb, unK, Zd, Zw, Nat.reduceBEq, Nat.reduceAdd, Int.reduceBEq, Int.reduceBNe, Int.reduceLT, Zu, Ya, tup, tyf, hkin]
        refine hN28 [(1, .pointer (some ⟨h.length, 0, none⟩)), (2, .slice none 0 0), (3, out), (4, Zx (s : Nat)), (5, .pointer (some ⟨hp.length, 0, none⟩)), (7, .func (.func 100) #[] #[.pointer (some ⟨hp.length, 0, none⟩)]), (11, x), (13, .slice (some ⟨G'.length + 1, 0, none⟩) n n), (26, .bool false), (51, .bool false), (83, wv), (84, Zx (W.length : Nat)), (85, Zx (W.length : Nat)), (86, .bool false)] _ _ ?_ (by simp (maxSteps := 2000000) only [↓Za, ↓Zo, ↓Zr, ↓Ze, ↓Zi, ↓Zs, ↓Zf, ↓Zl, ↓Zg, ↓Zc, ↓Zb, ↓vdn, vup, Zh, Zk, Zm, Zn, Zj, List.map_cons, List.map_nil, cond_true, cond_false, aop, Zv, Zq, Zp, ev, sput, Zt, Zz, Yb, unK, Zd, Zw, Nat.reduceBEq, Nat.reduceAdd, Int.reduceBEq, Int.reduceBNe, Int.reduceLT, Zu, Ya, tup, tyf])
        clear hN28
        try clear N28
        refine Zy fun N29 hN29 => ?_
        simp (maxSteps := 2000000) only [s60, ↓Za, ↓Zo, ↓Zr, ↓Ze, ↓Zi, ↓Zs, ↓Zf, ↓Zl, ↓Zg, ↓Zc, ↓Zb, ↓vdn, vup, Zh, Zk, Zm, Zn, Zj, List.map_cons, List.map_nil, cond_true, cond_false, aop, Zv, Zq, Zp, ev, sput, Zt, Zz, Yb, unK, Zd, Zw, Nat.reduceBEq, Nat.reduceAdd, Int.reduceBEq, Int.reduceBNe, Int.reduceLT, Zu, Ya, tup, tyf]
        refine hQb _ _ _ (hQa _ _ _ ?_)
        simp (maxSteps := 2000000) only [s60, ↓Za, ↓Zo, ↓Zr, ↓Ze, ↓Zi, ↓Zs, ↓Zf, ↓Zl, ↓Zg, ↓Zc, ↓Zb, ↓vdn, vup, Zh, Zk, Zm, Zn, Zj, List.map_cons, List.map_nil, cond_true, cond_false, aop, Zv, Zq, Zp, ev, sput, Zt, Zz, Yb, unK, Zd, Zw, Nat.reduceBEq, Nat.reduceAdd, Int.reduceBEq, Int.reduceBNe, Int.reduceLT, Zu, Ya, tup, tyf, if_true]
        refine hU [(1, .pointer (some ⟨h.length, 0, none⟩)), (2, .slice none 0 0), (3, out), (4, Zx (s : Nat)), (5, .pointer (some ⟨hp.length, 0, none⟩)), (7, .func (.func 100) #[] #[.pointer (some ⟨hp.length, 0, none⟩)]), (11, x), (13, .slice (some ⟨G'.length + 1, 0, none⟩) n n), (26, .bool false), (51, .bool false), (86, .bool false)] _ _ ?_ (by simp (maxSteps := 2000000) only [↓Za, ↓Zo, ↓Zr, ↓Ze, ↓Zi, ↓Zs, ↓Zf, ↓Zl, ↓Zg, ↓Zc, ↓Zb, ↓vdn, vup, Zh, Zk, Zm, Zn, Zj, List.map_cons, List.map_nil, cond_true, cond_false, aop, Zv, Zq, Zp, ev, sput, Zt, Zz, Yb, unK, Zd, Zw, Nat.reduceBEq, Nat.reduceAdd, Int.reduceBEq, Int.reduceBNe, Int.reduceLT, Zu, Ya, tup, tyf])
        clear hU
        try clear U
        -- it is noted
        have hcF := (hcs.ext (hEG'.trans (hFE W.length)))
        obtain ⟨us, hou, heach⟩ := hcF
        have hlen3 := heach.len
        have hcl := cornersTo_len n l (s - 1)
        refine Yd ?_
        simp (maxSteps := 2000000) only [s60, ↓Za, ↓Zo, ↓Zr, ↓Ze, ↓Zi, ↓Zs, ↓Zf, ↓Zl, ↓Zg, ↓Zc, ↓Zb, ↓vdn, vup, Zh, Zk, Zm, Zn, Zj, List.map_cons, List.map_nil, cond_true, cond_false, aop, Zv, Zq, Zp, ev, sput, Zt, Zz, Yb, unK, Zd, Zw, Nat.reduceBEq, Nat.reduceAdd, Int.reduceBEq, Int.reduceBNe, Int.reduceLT, Zu, Ya, tup, tyf, litV el_88 zero_90 esz_90]
        refine OwnV.app (us := [.slice (some ⟨G'.length + 1, 0, none⟩) n n]) (hou.ext (Ext.app _ _ _)) app_88_88 (.inr ⟨(F W.length).length, 0, none, 1, [.slice (some ⟨G'.length + 1, 0, none⟩) n n], 90, false, rfl, Nat.le_refl _, by simp [view, Blk.view], rfl⟩) (fun w hw => ?_) (by simp; omega) ?_
        · rcases List.mem_append.1 hw with h1 | h1
          · obtain ⟨b, bl, rfl, _⟩ := heach.mem w h1
            exact ⟨rfl, rfl⟩
          · rw [List.mem_singleton.1 h1]; exact ⟨rfl, rfl⟩
        · intro out' G3 ho3 hE3 hb3
          have hol : ∀ b, Yq out = some b → b < (F W.length).length := fun b hb => hou.lt hb
          have hHF := hEp.trans (hEG'.trans (hFE W.length))
          have hFk : Ext (fun _ => False) H G3 := ext_app hHF (H' := F W.length ++ [Blk.cells [.slice (some ⟨G'.length + 1, 0, none⟩) n n] 90 false]) (by simp) (fun z hz => List.getElem?_append_left (by have := hHF.1; omega)) hbo hE3
          have keep : ∀ bl c, (F W.length)[bl]? = some (Blk.cells c 26 false) → G3[bl]? = some (Blk.cells c 26 false) := fun bl c hbl => by
            have hlt := Yp hbl
            rw [hE3.2 bl (by rw [List.length_append]; omega) (fun hc => ?_), List.getElem?_append_left hlt, hbl]
            obtain ⟨c', hc'⟩ := hou.blk hc
            rw [hbl] at hc'
            exact absurd (Blk.cells.inj (Option.some.inj hc')).2.1 (by decide)
          refine goOn _ out' G3 ⟨us ++ [.slice (some ⟨G'.length + 1, 0, none⟩) n n], ho3, ?_⟩ hFk (fun b hb => ?_) (by simp (maxSteps := 2000000) only [↓Za, ↓Zo, ↓Zr, ↓Ze, ↓Zi, ↓Zs, ↓Zf, ↓Zl, ↓Zg, ↓Zc, ↓Zb, ↓vdn, vup, Zh, Zk, Zm, Zn, Zj, List.map_cons, List.map_nil, cond_true, cond_false, aop, Zv, Zq, Zp, ev, sput, Zt, Zz, Yb, unK, Zd, Zw, Nat.reduceBEq, Nat.reduceAdd, Int.reduceBEq, Int.reduceBNe, Int.reduceLT, Zu, Ya, tup, tyf])
          · rw [hcsucc, hcorner]
            refine Each.app (heach.imp fun w b ⟨bl, q1, q2⟩ => ⟨bl, q1, keep bl _ q2⟩) ⟨⟨G'.length + 1, by rw [spreadTo_len], keep _ _ (hF0 _)⟩, trivial⟩
          · rcases hb3 with h1 | ⟨b', h1, h2⟩
            · exact hbo b (h1 ▸ hb)
            · rw [h1] at hb; cases hb
              rw [List.length_append] at h2
              have := hHF.1; omega
  · have hss := loopEnd hin hs
    subst hss
    refine Zy fun N30 hN30 => ?_
    simp (maxSteps := 2000000) only [s60, ↓Za, ↓Zo, ↓Zr, ↓Ze, ↓Zi, ↓Zs, ↓Zf, ↓Zl, ↓Zg, ↓Zc, ↓Zb, ↓vdn, vup, Zh, Zk, Zm, Zn, Zj, List.map_cons, List.map_nil, cond_true, cond_false, aop, Zv, Zq, Zp, ev, sput, Zt, Zz, Yb, unK, Zd, Zw, Nat.reduceBEq, Nat.reduceAdd, Int.reduceBEq, Int.reduceBNe, Int.reduceLT, Zu, Ya, tup, tyf, tA0, loadT0 t1p, Int.natCast_nonneg, hsh, hin]
    refine hQ2 _ _ _ (hQ _ _ _ ?_)
    simp (maxSteps := 2000000) only [s60, ↓Za, ↓Zo, ↓Zr, ↓Ze, ↓Zi, ↓Zs, ↓Zf, ↓Zl, ↓Zg, ↓Zc, ↓Zb, ↓vdn, vup, Zh, Zk, Zm, Zn, Zj, List.map_cons, List.map_nil, cond_true, cond_false, aop, Zv, Zq, Zp, ev, sput, Zt, Zz, Yb, unK, Zd, Zw, Nat.reduceBEq, Nat.reduceAdd, Int.reduceBEq, Int.reduceBNe, Int.reduceLT, Zu, Ya, tup, tyf, if_true]
    refine hZ [(1, .pointer (some ⟨h.length, 0, none⟩)), (2, .slice none 0 0), (3, out), (4, Zx (2 ^ n : Nat))] _ _ ?_ (by simp (maxSteps := 2000000) only [↓Za, ↓Zo, ↓Zr, ↓Ze, ↓Zi, ↓Zs, ↓Zf, ↓Zl, ↓Zg, ↓Zc, ↓Zb, ↓vdn, vup, Zh, Zk, Zm, Zn, Zj, List.map_cons, List.map_nil, cond_true, cond_false, aop, Zv, Zq, Zp, ev, sput, Zt, Zz, Yb, unK, Zd, Zw, Nat.reduceBEq, Nat.reduceAdd, Int.reduceBEq, Int.reduceBNe, Int.reduceLT, Zu, Ya, tup, tyf])
    clear hZ
    try clear Z
    refine Yd ?_
    simp (maxSteps := 2000000) only [s60, ↓Za, ↓Zo, ↓Zr, ↓Ze, ↓Zi, ↓Zs, ↓Zf, ↓Zl, ↓Zg, ↓Zc, ↓Zb, ↓vdn, vup, Zh, Zk, Zm, Zn, Zj, List.map_cons, List.map_nil, cond_true, cond_false, aop, Zv, Zq, Zp, ev, sput, Zt, Zz, Yb, unK, Zd, Zw, Nat.reduceBEq, Nat.reduceAdd, Int.reduceBEq, Int.reduceBNe, Int.reduceLT, Zu, Ya, tup, tyf]
    exact ⟨hE.trans hEp, hcs, fun b hb => by have := hbo b hb; omega⟩
end Go.Proofs.Try.Am

namespace Go.Proofs.Try.Am
open Go.Am
set_option maxRecDepth 100000
end Go.Proofs.Try.Am

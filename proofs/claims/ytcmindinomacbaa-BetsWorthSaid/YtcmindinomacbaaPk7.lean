/-
  bets: fractions: sums, products, quotients.
  bets: the common multiple of fractions that sum to one: its square divides the product. Plain Lean, no program.
  bets: fractions as they are handed in; their common multiple; a forecast's is small. Plain Lean, no program.
  bets: forecasts as numbers. Plain Lean, no program.
  bets: fractions: the reference's arithmetic; a fraction's checks.
  Printed by gen.py: the code of some functions, without what no step looks at; held against the program's own by the kernel.
  bets: the common multiple of fractions.
  Printed by gen.py: the code of some functions, without what no step looks at; held against the program's own by the kernel.
  bets: chances: their checks, sums over an event, parts.
  Printed by gen.py: the code of some functions, without what no step looks at; held against the program's own by the kernel.
  Printed by gen.py: the code of some functions, without what no step looks at; held against the program's own by the kernel.
-/
import Derived.Test.YtcmindinomacbaaPk6
import Derived.Test.YtcmindinomacbaaPk3
import Derived.Test.YtcmindinomacbaaProg
import Derived.KernelRfl
import Derived.Shelf.Abstract
set_option linter.all false
namespace Go.Proofs.Try.Am
open Go.Am Bq
set_option maxRecDepth 100000
set_option maxHeartbeats 1000000

section
variable (h : Yc) (A B C : Blk)
theorem b2_0 : (h ++ [A] ++ [B])[h.length]? = some A := by simp
theorem b2_1 : (h ++ [A] ++ [B])[h.length + 1]? = some B := by simp
theorem b3_0 : (h ++ [A] ++ [B] ++ [C])[h.length]? = some A := by simp
theorem b3_1 : (h ++ [A] ++ [B] ++ [C])[h.length + 1]? = some B := by simp
theorem b3_2 : (h ++ [A] ++ [B] ++ [C])[h.length + 2]? = some C := by simp
theorem e2 : Ext (fun _ => False) h (h ++ [A] ++ [B]) := by rw [List.append_assoc]; exact Ext.app _ _ _
theorem e3 : Ext (fun _ => False) h (h ++ [A] ++ [B] ++ [C]) := by rw [List.append_assoc, List.append_assoc]; exact Ext.app _ _ _
end
abbrev fC (x y : Int) : Blk := .cells [Zx x, Zx y] 26 false
abbrev z0 : Blk := .cells [.int .i64 0, .int .i64 0] 26 false

theorem quoD {x y : Nat} (hx : x < 9223372036854775808) (hd : y ∣ x) : quoV .i64 (x : Int) (y : Int) = ((x / y : Nat) : Int) := by
  rw [quo_dvd (by omega) (Int.natCast_dvd_natCast.2 hd), Int.natCast_ediv]
theorem mulN {a b : Int} (h : (a * b).natAbs < 9223372036854775808) : mulV .i64 a b = a * b := mulV_id (by omega) (by omega)
theorem addN {a b : Int} (h : a.natAbs + b.natAbs < 9223372036854775808) : addV .i64 a b = a + b := addV_id (by omega) (by omega)
theorem subN {a b : Int} (h : a.natAbs + b.natAbs < 9223372036854775808) : subV .i64 a b = a - b := subV_id (by omega) (by omega)

theorem s71_callW [Tabs Try.prog] {args : List Value} {h : Yc} {Q : Value → Yc → Prop} (hsz : args.length ≤ 38) (hk : AWS Try.prog 38 s71 (Zu Try.prog [.cell 6 26] Q) (Zp 0 args) h) : ACall Try.prog 71 args h Q :=
  Yv Try.func71 rfl (enters_of Try.func71 (by kernel_rfl) rfl) rfl rfl (by decide) s71_strip s71_ok hsz hk
theorem plus_call [Tabs prog] {h : Yc} {a b : Rat} {k x y : Int} {N : Nat} (ha : Rp N x a) (hb : Rp N y b) (hx : x.natAbs + (k * y).natAbs < 9223372036854775808) (hN : N < 9223372036854775808) : Xi prog 71 [qV a, Zx k, qV b] h (qV (a + k * b)) := by
  obtain ⟨p1, p2, p3, p4, p5⟩ := plus_bound (k := k) ha hb
  have da := ha.den_le
  have db := hb.den_le
  have hg := Nat.gcd_pos_of_pos_left b.den a.den_pos
  have pe := plus_eq a b k
  obtain ⟨H, hH⟩ : ∃ H, H = h ++ [fC a.num a.den] ++ [fC b.num b.den] ++ [z0] := ⟨_, rfl⟩
  have c3 : H[h.length]? = some (fC a.num a.den) := by rw [hH]; exact b3_0 ..
  have c5 : H[h.length + 1]? = some (fC b.num b.den) := by rw [hH]; exact b3_1 ..
  have c6 : H[h.length + 2]? = some z0 := by rw [hH]; exact b3_2 ..
  have hE : Ext (fun _ => False) h H := by rw [hH]; exact e3 ..
  have hg0 : ¬ ((Nat.gcd a.den b.den : Nat) : Int) = 0 := by omega
  have q1 := quoD (x := b.den) (show b.den < 9223372036854775808 by omega) (Nat.gcd_dvd_right a.den b.den)
  have q2 := quoD (x := a.den) (show a.den < 9223372036854775808 by omega) (Nat.gcd_dvd_left a.den b.den)
  have m1 := mulN (a := a.num) (b := ((b.den / Nat.gcd a.den b.den : Nat) : Int)) (by omega)
  have m2 := mulN (a := k) (b := b.num) (by omega)
  have m3 := mulN (a := k * b.num) (b := ((a.den / Nat.gcd a.den b.den : Nat) : Int)) (by omega)
  have m4 := addN (a := a.num * ((b.den / Nat.gcd a.den b.den : Nat) : Int)) (b := k * b.num * ((a.den / Nat.gcd a.den b.den : Nat) : Int)) (by omega)
  have m5 : mulV .i64 ((a.den / Nat.gcd a.den b.den : Nat) : Int) (b.den : Int) = ((a.den / Nat.gcd a.den b.den * b.den : Nat) : Int) := by
    rw [mulN (by rw [← Int.natCast_mul]; omega), Int.natCast_mul]
  have pe' : Rat.divInt (a.num * ((b.den / Nat.gcd a.den b.den : Nat) : Int) + k * b.num * ((a.den / Nat.gcd a.den b.den : Nat) : Int)) ((a.den / Nat.gcd a.den b.den * b.den : Nat) : Int) = a + k * b := by
    rw [Int.natCast_mul]; exact pe
  have fc := frac_call (h := H) (a := a.num * ((b.den / Nat.gcd a.den b.den : Nat) : Int) + k * b.num * ((a.den / Nat.gcd a.den b.den : Nat) : Int)) (b := ((a.den / Nat.gcd a.den b.den * b.den : Nat) : Int)) (by omega) (by omega) (by omega)
  rw [pe'] at fc
  obtain ⟨q, hq⟩ : ∃ q, a + (k : Rat) * b = q := ⟨_, rfl⟩
  rw [hq] at fc ⊢
  refine ACall.forget (low_frV _ _) ?_
  refine s71_callW (by simp) ?_
  simp only [s71]
  refine Zy fun N1 hN1 => ?_
  simp (maxSteps := 2000000) only [s71, ↓Za, ↓Zk, ↓Zr, ↓Ze, ↓Zj, ↓Zs, ↓Zg, ↓Zi, ↓Zf, ↓Zc, ↓Zb, ↓vdn, vup, Zl, Zh, Zm, Zo, Zn, List.map_cons, List.map_nil, cond_true, cond_false, aop, Zv, Zq, Zp, ev, sput, Zt, Zz, Yb, unK, Zd, Zw, Nat.reduceBEq, Nat.reduceAdd, Int.reduceBEq, Int.reduceBNe, Int.reduceLT, Zu, Ya, tup, tyf, qV, frV, boxF, Xq, Xb, Xp, List.length_append, List.length_singleton, Nat.add_assoc]
  rw [← hH]
  refine hN1 [(1, Zx k), (3, .pointer (some ⟨h.length, 0, none⟩)), (5, .pointer (some ⟨h.length + 1, 0, none⟩)), (6, .pointer (some ⟨h.length + 2, 0, none⟩))] _ _ ?_ (by simp (maxSteps := 2000000) only [↓Za, ↓Zk, ↓Zr, ↓Ze, ↓Zj, ↓Zs, ↓Zg, ↓Zi, ↓Zf, ↓Zc, ↓Zb, ↓vdn, vup, Zl, Zh, Zm, Zo, Zn, List.map_cons, List.map_nil, cond_true, cond_false, aop, Zv, Zq, Zp, ev, sput, Zt, Zz, Yb, unK, Zd, Zw, Nat.reduceBEq, Nat.reduceAdd, Int.reduceBEq, Int.reduceBNe, Int.reduceLT, Zu, Ya, tup, tyf])
  clear hN1
  try clear N1
  refine Zy fun N2 hN2 => ?_
  simp (maxSteps := 2000000) only [s71, ↓Za, ↓Zk, ↓Zr, ↓Ze, ↓Zj, ↓Zs, ↓Zg, ↓Zi, ↓Zf, ↓Zc, ↓Zb, ↓vdn, vup, Zl, Zh, Zm, Zo, Zn, List.map_cons, List.map_nil, cond_true, cond_false, aop, Zv, Zq, Zp, ev, sput, Zt, Zz, Yb, unK, Zd, Zw, Nat.reduceBEq, Nat.reduceAdd, Int.reduceBEq, Int.reduceBNe, Int.reduceLT, Zu, Ya, tup, tyf, Yx, List.nil_append, List.append_nil, List.toList_toArray, List.cons_append, fA0, fA1, Xx c3, Xx c5]
  refine (gcd_call (.inl (by omega)) (by omega)).mono ?_
  rintro _ _ ⟨rfl, rfl⟩
  rw [Int.natAbs_natCast, Int.natAbs_natCast]
  refine hN2 [(1, Zx k), (3, .pointer (some ⟨h.length, 0, none⟩)), (5, .pointer (some ⟨h.length + 1, 0, none⟩)), (6, .pointer (some ⟨h.length + 2, 0, none⟩)), (7, Zx (Nat.gcd a.den b.den : Nat))] _ _ ?_ (by simp (maxSteps := 2000000) only [↓Za, ↓Zk, ↓Zr, ↓Ze, ↓Zj, ↓Zs, ↓Zg, ↓Zi, ↓Zf, ↓Zc, ↓Zb, ↓vdn, vup, Zl, Zh, Zm, Zo, Zn, List.map_cons, List.map_nil, cond_true, cond_false, aop, Zv, Zq, Zp, ev, sput, Zt, Zz, Yb, unK, Zd, Zw, Nat.reduceBEq, Nat.reduceAdd, Int.reduceBEq, Int.reduceBNe, Int.reduceLT, Zu, Ya, tup, tyf])
  clear hN2
  try clear N2
  refine Yd ?_
  simp only [q71_2]
  refine aw_cut fun N hN => ?_
  refine Xg [(24, 1)] (by kernel_rfl) (by kernel_rfl) (by kernel_rfl) (by kernel_rfl) ?_
  simp (maxSteps := 2000000) only [s71, ↓Za, ↓Zk, ↓Zr, ↓Ze, ↓Zj, ↓Zs, ↓Zg, ↓Zi, ↓Zf, ↓Zc, ↓Zb, ↓vdn, vup, Zl, Zh, Zm, Zo, Zn, List.map_cons, List.map_nil, cond_true, cond_false, aop, Zv, Zq, Zp, ev, sput, Zt, Zz, Yb, unK, Zd, Zw, Nat.reduceBEq, Nat.reduceAdd, Int.reduceBEq, Int.reduceBNe, Int.reduceLT, Zu, Ya, tup, tyf, fA0, fA1, Xx c3, Xx c5, Ws c3, Ws c5, ne_eq, hg0, not_false_eq_true, q1, q2, m1, m2, m3, m4, m5, Yx, List.nil_append, List.append_nil, List.toList_toArray, List.cons_append]
  refine ⟨_, _, fc, rfl, ?_⟩
  simp (maxSteps := 2000000) only [s71, ↓Za, ↓Zk, ↓Zr, ↓Ze, ↓Zj, ↓Zs, ↓Zg, ↓Zi, ↓Zf, ↓Zc, ↓Zb, ↓vdn, vup, Zl, Zh, Zm, Zo, Zn, List.map_cons, List.map_nil, cond_true, cond_false, aop, Zv, Zq, Zp, ev, sput, Zt, Zz, Yb, unK, Zd, Zw, Nat.reduceBEq, Nat.reduceAdd, Int.reduceBEq, Int.reduceBNe, Int.reduceLT, Zu, Ya, tup, tyf, qV, frV, Wi c6 rfl]
  refine hN _ _ ?_
  simp (maxSteps := 2000000) only [s71, ↓Za, ↓Zk, ↓Zr, ↓Ze, ↓Zj, ↓Zs, ↓Zg, ↓Zi, ↓Zf, ↓Zc, ↓Zb, ↓vdn, vup, Zl, Zh, Zm, Zo, Zn, List.map_cons, List.map_nil, cond_true, cond_false, aop, Zv, Zq, Zp, ev, sput, Zt, Zz, Yb, unK, Zd, Zw, Nat.reduceBEq, Nat.reduceAdd, Int.reduceBEq, Int.reduceBNe, Int.reduceLT, Zu, Ya, tup, tyf, loadF (Wr (Xj c6) _)]
  exact ⟨rfl, hE.set_ge (by omega) _⟩

/-- The product fits. -/
def Fits (q : Rat) : Prop := q.num.natAbs < 9223372036854775808 ∧ q.den < 9223372036854775808
theorem s72_callW [Tabs Try.prog] {args : List Value} {h : Yc} {Q : Value → Yc → Prop} (hsz : args.length ≤ 28) (hk : AWS Try.prog 28 s72 (Zu Try.prog [.cell 4 26] Q) (Zp 0 args) h) : ACall Try.prog 72 args h Q :=
  Yv Try.func72 rfl (enters_of Try.func72 (by kernel_rfl) rfl) rfl rfl (by decide) s72_strip s72_ok hsz hk
theorem times_call [Tabs prog] {h : Yc} {a b : Rat} (ha : Fits a) (hb : Fits b) (hab : Fits (a * b)) : Xi prog 72 [qV a, qV b] h (qV (a * b)) := by
  have da := a.den_nz
  have db := b.den_nz
  obtain ⟨t1, t2⟩ := times_eq a b
  have f1 : ∀ h : Yc, Xi prog 64 [Zx a.num, Zx b.den] h (qV (Rat.divInt a.num b.den)) := fun h => frac_call (by omega) ha.1 (by have := hb.2; omega)
  have f2 : ∀ h : Yc, Xi prog 64 [Zx b.num, Zx a.den] h (qV (Rat.divInt b.num a.den)) := fun h => frac_call (by omega) hb.1 (by have := ha.2; omega)
  obtain ⟨u, hu⟩ : ∃ u, Rat.divInt a.num b.den = u := ⟨_, rfl⟩
  obtain ⟨v, hv⟩ : ∃ v, Rat.divInt b.num a.den = v := ⟨_, rfl⟩
  rw [hu] at f1 t1 t2
  rw [hv] at f2 t1 t2
  have m1 : mulV .i64 u.num v.num = (a * b).num := by rw [← t1]; exact mulN (by rw [t1]; exact hab.1)
  have m2 : mulV .i64 (u.den : Int) (v.den : Int) = ((a * b).den : Int) := by
    rw [← t2, Int.natCast_mul]; exact mulN (by rw [← Int.natCast_mul, t2]; have := hab.2; omega)
  obtain ⟨q, hq⟩ : ∃ q, a * b = q := ⟨_, rfl⟩
  rw [hq] at m1 m2 ⊢
  obtain ⟨H, hH⟩ : ∃ H, H = h ++ [fC a.num a.den] ++ [fC b.num b.den] ++ [z0] := ⟨_, rfl⟩
  have c2 : H[h.length]? = some (fC a.num a.den) := by rw [hH]; exact b3_0 ..
  have c3 : H[h.length + 1]? = some (fC b.num b.den) := by rw [hH]; exact b3_1 ..
  have c4 : H[h.length + 2]? = some z0 := by rw [hH]; exact b3_2 ..
  have hE : Ext (fun _ => False) h H := by rw [hH]; exact e3 ..
  have hlen : H.length = h.length + 3 := by rw [hH]; simp
  refine ACall.forget (low_frV _ _) ?_
  refine s72_callW (by simp) ?_
  simp only [s72]
  refine Zy fun N3 hN3 => ?_
  simp (maxSteps := 2000000) only [s72, ↓Za, ↓Zk, ↓Zr, ↓Ze, ↓Zj, ↓Zs, ↓Zg, ↓Zi, ↓Zf, ↓Zc, ↓Zb, ↓vdn, vup, Zl, Zh, Zm, Zo, Zn, List.map_cons, List.map_nil, cond_true, cond_false, aop, Zv, Zq, Zp, ev, sput, Zt, Zz, Yb, unK, Zd, Zw, Nat.reduceBEq, Nat.reduceAdd, Int.reduceBEq, Int.reduceBNe, Int.reduceLT, Zu, Ya, tup, tyf, qV, frV, boxF, Xq, Xb, Xp, List.length_append, List.length_singleton, Nat.add_assoc]
  rw [← hH]
  refine hN3 [(2, .pointer (some ⟨h.length, 0, none⟩)), (3, .pointer (some ⟨h.length + 1, 0, none⟩)), (4, .pointer (some ⟨h.length + 2, 0, none⟩))] _ _ ?_ (by simp (maxSteps := 2000000) only [↓Za, ↓Zk, ↓Zr, ↓Ze, ↓Zj, ↓Zs, ↓Zg, ↓Zi, ↓Zf, ↓Zc, ↓Zb, ↓vdn, vup, Zl, Zh, Zm, Zo, Zn, List.map_cons, List.map_nil, cond_true, cond_false, aop, Zv, Zq, Zp, ev, sput, Zt, Zz, Yb, unK, Zd, Zw, Nat.reduceBEq, Nat.reduceAdd, Int.reduceBEq, Int.reduceBNe, Int.reduceLT, Zu, Ya, tup, tyf])
  clear hN3
  try clear N3
  refine Zy fun N4 hN4 => ?_
  refine aw_drawE (fun hp => hp[h.length]? = some (fC a.num a.den) ∧ hp[h.length + 1]? = some (fC b.num b.den)) [(1, 5), (3, 5), (6, 5), (8, 5), (4, 2), (9, 2)] 11 6 [10] (by kernel_rfl) (by kernel_rfl) (by kernel_rfl) (by kernel_rfl) (by kernel_rfl) (by rfl) ⟨c2, c3⟩ ?_
  simp (maxSteps := 2000000) only [s72, ↓Za, ↓Zk, ↓Zr, ↓Ze, ↓Zj, ↓Zs, ↓Zg, ↓Zi, ↓Zf, ↓Zc, ↓Zb, ↓vdn, vup, Zl, Zh, Zm, Zo, Zn, List.map_cons, List.map_nil, cond_true, cond_false, aop, Zv, Zq, Zp, ev, sput, Zt, Zz, Yb, unK, Zd, Zw, Nat.reduceBEq, Nat.reduceAdd, Int.reduceBEq, Int.reduceBNe, Int.reduceLT, Zu, Ya, tup, tyf, fA0, fA1, Yx, List.nil_append, List.append_nil, List.toList_toArray, List.cons_append]
  refine ⟨Zx a.num, fun _ g => by rw [Ws g.1], Zx b.den, fun _ g => by rw [Xx g.2], qV u, fun _ _ => ⟨_, _, f1 _, rfl, rfl⟩, Zx b.num, fun _ g => by rw [Ws g.2], Zx a.den, fun _ g => by rw [Xx g.1], qV v, fun _ _ => ⟨_, _, f2 _, rfl, rfl⟩, ?_⟩
  have k1 : (H ++ [z0] ++ [z0])[H.length]? = some z0 := b2_0 ..
  obtain ⟨H2, hH2⟩ : ∃ H2, H2 = (H ++ [z0] ++ [z0]).set H.length (fC u.num u.den) := ⟨_, rfl⟩
  have k2 : H2[H.length + 1]? = some z0 := by rw [hH2, List.getElem?_set_ne (by omega)]; exact b2_1 ..
  have k3 : H2[H.length]? = some (fC u.num u.den) := by rw [hH2]; exact Wr (by simp) _
  have k4 : Ext (fun _ => False) h H2 := by rw [hH2]; exact (hE.trans (e2 ..)).set_ge (by omega) _
  have k5 : H2[h.length]? = some (fC a.num a.den) ∧ H2[h.length + 1]? = some (fC b.num b.den) ∧ H2[h.length + 2]? = some z0 := by
    rw [hH2, List.getElem?_set_ne (by omega), List.getElem?_set_ne (by omega), List.getElem?_set_ne (by omega)]
    exact ⟨Xr (Xr c2 _) _, Xr (Xr c3 _) _, Xr (Xr c4 _) _⟩
  obtain ⟨H3, hH3⟩ : ∃ H3, H3 = H2.set (H.length + 1) (fC v.num v.den) := ⟨_, rfl⟩
  have l1 : H3[H.length + 1]? = some (fC v.num v.den) := by rw [hH3]; exact Wr (Xj k2) _
  have l2 : H3[H.length]? = some (fC u.num u.den) := by rw [hH3, List.getElem?_set_ne (by omega)]; exact k3
  have l3 : H3[h.length + 2]? = some z0 := by rw [hH3, List.getElem?_set_ne (by omega)]; exact k5.2.2
  have l4 : Ext (fun _ => False) h H3 := by rw [hH3]; exact k4.set_ge (by omega) _
  have l5 : H3[h.length]? = some (fC a.num a.den) ∧ H3[h.length + 1]? = some (fC b.num b.den) := by
    rw [hH3, List.getElem?_set_ne (by omega), List.getElem?_set_ne (by omega)]
    exact ⟨k5.1, k5.2.1⟩
  simp (maxSteps := 2000000) only [s72, ↓Za, ↓Zk, ↓Zr, ↓Ze, ↓Zj, ↓Zs, ↓Zg, ↓Zi, ↓Zf, ↓Zc, ↓Zb, ↓vdn, vup, Zl, Zh, Zm, Zo, Zn, List.map_cons, List.map_nil, cond_true, cond_false, aop, Zv, Zq, Zp, ev, sput, Zt, Zz, Yb, unK, Zd, Zw, Nat.reduceBEq, Nat.reduceAdd, Int.reduceBEq, Int.reduceBNe, Int.reduceLT, Zu, Ya, tup, tyf, Xq, Xb, Xp]
  refine ⟨⟨Xr c2 _, Xr c3 _⟩, ⟨Xr (Xr c2 _) _, Xr (Xr c3 _) _⟩, ?_⟩
  simp only [qV, frV, Wi k1 rfl, List.length_append, List.length_singleton]
  rw [← hH2, Wi k2 rfl, ← hH3]
  refine ⟨⟨k5.1, k5.2.1⟩, l5, ?_⟩
  refine hN4 [(2, .pointer (some ⟨h.length, 0, none⟩)), (3, .pointer (some ⟨h.length + 1, 0, none⟩)), (4, .pointer (some ⟨h.length + 2, 0, none⟩)), (5, .pointer (some ⟨H.length, 0, none⟩)), (6, .pointer (some ⟨H.length + 1, 0, none⟩))] _ _ ?_ (by simp (maxSteps := 2000000) only [↓Za, ↓Zk, ↓Zr, ↓Ze, ↓Zj, ↓Zs, ↓Zg, ↓Zi, ↓Zf, ↓Zc, ↓Zb, ↓vdn, vup, Zl, Zh, Zm, Zo, Zn, List.map_cons, List.map_nil, cond_true, cond_false, aop, Zv, Zq, Zp, ev, sput, Zt, Zz, Yb, unK, Zd, Zw, Nat.reduceBEq, Nat.reduceAdd, Int.reduceBEq, Int.reduceBNe, Int.reduceLT, Zu, Ya, tup, tyf])
  clear hN4
  try clear N4
  refine Yd ?_
  simp (maxSteps := 2000000) only [s72, ↓Za, ↓Zk, ↓Zr, ↓Ze, ↓Zj, ↓Zs, ↓Zg, ↓Zi, ↓Zf, ↓Zc, ↓Zb, ↓vdn, vup, Zl, Zh, Zm, Zo, Zn, List.map_cons, List.map_nil, cond_true, cond_false, aop, Zv, Zq, Zp, ev, sput, Zt, Zz, Yb, unK, Zd, Zw, Nat.reduceBEq, Nat.reduceAdd, Int.reduceBEq, Int.reduceBNe, Int.reduceLT, Zu, Ya, tup, tyf, fA0, fA1, Ws l1, Xx l1, Ws l2, Xx l2, m1, m2, List.toList_toArray, bldF, Wi l3 rfl, loadF (Wr (Xj l3) _)]
  exact ⟨rfl, l4.set_ge (by omega) _⟩

theorem fits_inv {a b : Rat} (hb : b ≠ 0) (h : Fits b) : Rat.divInt b.den b.num = b⁻¹ ∧ Fits b⁻¹ := by
  have hn : b.num ≠ 0 := fun hc => hb (Rat.num_eq_zero.1 hc)
  refine ⟨(Rat.inv_def b).symm, ?_, ?_⟩
  · rw [Rat.num_inv, Int.natAbs_mul, Int.natAbs_sign_of_ne_zero hn]
    have := h.2; simpa using this
  · rw [Rat.den_inv, if_neg hn]; exact h.1

theorem s94_callW [Tabs Try.prog] {args : List Value} {h : Yc} {Q : Value → Yc → Prop} (hsz : args.length ≤ 12) (hk : AWS Try.prog 12 s94 (Zu Try.prog [.cell 4 26] Q) (Zp 0 args) h) : ACall Try.prog 94 args h Q :=
  Yv Try.func94 rfl (enters_of Try.func94 (by kernel_rfl) rfl) rfl rfl (by decide) s94_strip s94_ok hsz hk
theorem over_call [Tabs prog] {h : Yc} {a b : Rat} (ha : Fits a) (hb : Fits b) (hb0 : b ≠ 0) (hab : Fits (a / b)) : Xi prog 94 [qV a, qV b] h (qV (a / b)) := by
  obtain ⟨i1, i2⟩ := fits_inv (a := a) hb0 hb
  have hn : b.num ≠ 0 := fun hc => hb0 (Rat.num_eq_zero.1 hc)
  have f1 : ∀ h : Yc, Xi prog 64 [Zx b.den, Zx b.num] h (qV b⁻¹) := fun h => by
    rw [← i1]; exact frac_call hn (by have := hb.2; omega) hb.1
  have f2 : ∀ h : Yc, Xi prog 72 [qV a, qV b⁻¹] h (qV (a / b)) := fun h => times_call ha i2 hab
  obtain ⟨q, hq⟩ : ∃ q, a / b = q := ⟨_, rfl⟩
  rw [hq] at f2 ⊢
  obtain ⟨H, hH⟩ : ∃ H, H = h ++ [fC a.num a.den] ++ [fC b.num b.den] ++ [z0] := ⟨_, rfl⟩
  have c2 : H[h.length]? = some (fC a.num a.den) := by rw [hH]; exact b3_0 ..
  have c3 : H[h.length + 1]? = some (fC b.num b.den) := by rw [hH]; exact b3_1 ..
  have c4 : H[h.length + 2]? = some z0 := by rw [hH]; exact b3_2 ..
  have hE : Ext (fun _ => False) h H := by rw [hH]; exact e3 ..
  refine ACall.forget (low_frV _ _) ?_
  refine s94_callW (by simp) ?_
  simp only [s94]
  refine Zy fun N5 hN5 => ?_
  simp (maxSteps := 2000000) only [s94, ↓Za, ↓Zk, ↓Zr, ↓Ze, ↓Zj, ↓Zs, ↓Zg, ↓Zi, ↓Zf, ↓Zc, ↓Zb, ↓vdn, vup, Zl, Zh, Zm, Zo, Zn, List.map_cons, List.map_nil, cond_true, cond_false, aop, Zv, Zq, Zp, ev, sput, Zt, Zz, Yb, unK, Zd, Zw, Nat.reduceBEq, Nat.reduceAdd, Int.reduceBEq, Int.reduceBNe, Int.reduceLT, Zu, Ya, tup, tyf, qV, frV, boxF, Xq, Xb, Xp, List.length_append, List.length_singleton, Nat.add_assoc]
  rw [← hH]
  refine hN5 [(2, .pointer (some ⟨h.length, 0, none⟩)), (3, .pointer (some ⟨h.length + 1, 0, none⟩)), (4, .pointer (some ⟨h.length + 2, 0, none⟩))] _ _ ?_ (by simp (maxSteps := 2000000) only [↓Za, ↓Zk, ↓Zr, ↓Ze, ↓Zj, ↓Zs, ↓Zg, ↓Zi, ↓Zf, ↓Zc, ↓Zb, ↓vdn, vup, Zl, Zh, Zm, Zo, Zn, List.map_cons, List.map_nil, cond_true, cond_false, aop, Zv, Zq, Zp, ev, sput, Zt, Zz, Yb, unK, Zd, Zw, Nat.reduceBEq, Nat.reduceAdd, Int.reduceBEq, Int.reduceBNe, Int.reduceLT, Zu, Ya, tup, tyf])
  clear hN5
  try clear N5
  refine Yd ?_
  simp only [q94_1]
  refine aw_cut fun N hN => ?_
  refine Xg [(5, 1), (6, 1)] (by kernel_rfl) (by kernel_rfl) (by kernel_rfl) (by kernel_rfl) ?_
  simp (maxSteps := 2000000) only [s94, ↓Za, ↓Zk, ↓Zr, ↓Ze, ↓Zj, ↓Zs, ↓Zg, ↓Zi, ↓Zf, ↓Zc, ↓Zb, ↓vdn, vup, Zl, Zh, Zm, Zo, Zn, List.map_cons, List.map_nil, cond_true, cond_false, aop, Zv, Zq, Zp, ev, sput, Zt, Zz, Yb, unK, Zd, Zw, Nat.reduceBEq, Nat.reduceAdd, Int.reduceBEq, Int.reduceBNe, Int.reduceLT, Zu, Ya, tup, tyf, fA0, fA1, loadF c2, Ws c3, Xx c3, Yx, List.nil_append, List.append_nil, List.toList_toArray, List.cons_append]
  refine ⟨_, _, f1 _, rfl, ?_⟩
  refine ⟨_, _, f2 _, rfl, ?_⟩
  simp (maxSteps := 2000000) only [s94, ↓Za, ↓Zk, ↓Zr, ↓Ze, ↓Zj, ↓Zs, ↓Zg, ↓Zi, ↓Zf, ↓Zc, ↓Zb, ↓vdn, vup, Zl, Zh, Zm, Zo, Zn, List.map_cons, List.map_nil, cond_true, cond_false, aop, Zv, Zq, Zp, ev, sput, Zt, Zz, Yb, unK, Zd, Zw, Nat.reduceBEq, Nat.reduceAdd, Int.reduceBEq, Int.reduceBNe, Int.reduceLT, Zu, Ya, tup, tyf, qV, frV, Wi c4 rfl]
  refine hN _ _ ?_
  simp (maxSteps := 2000000) only [s94, ↓Za, ↓Zk, ↓Zr, ↓Ze, ↓Zj, ↓Zs, ↓Zg, ↓Zi, ↓Zf, ↓Zc, ↓Zb, ↓vdn, vup, Zl, Zh, Zm, Zo, Zn, List.map_cons, List.map_nil, cond_true, cond_false, aop, Zv, Zq, Zp, ev, sput, Zt, Zz, Yb, unK, Zd, Zw, Nat.reduceBEq, Nat.reduceAdd, Int.reduceBEq, Int.reduceBNe, Int.reduceLT, Zu, Ya, tup, tyf, loadF (Wr (Xj c4) _)]
  exact ⟨rfl, hE.set_ge (by omega) _⟩

theorem s62_callW [Tabs Try.prog] {args : List Value} {h : Yc} {Q : Value → Yc → Prop} (hsz : args.length ≤ 10) (hk : AWS Try.prog 10 s62 (Zu Try.prog [.tmp 4] Q) (Zp 0 args) h) : ACall Try.prog 62 args h Q :=
  Yv Try.func62 rfl (enters_of Try.func62 (by kernel_rfl) rfl) rfl rfl (by decide) s62_strip s62_ok hsz hk
theorem less_call [Tabs prog] {h : Yc} {a b : Rat} {x y : Int} {N : Nat} (ha : Rp N x a) (hb : Rp N y b) (hx : x.natAbs + y.natAbs < 9223372036854775808) (hN : N < 9223372036854775808) : Xi prog 62 [qV a, qV b] h (.bool (decide (a < b))) := by
  have p := plus_call (h := h ++ [fC a.num a.den] ++ [fC b.num b.den]) (k := -1) ha hb (by omega) hN
  have e1 : decide ((a + ((-1 : Int) : Rat) * b).num < 0) = decide (a < b) := by
    have hpl := ha.plus hb (-1)
    have h0 := hpl.num
    have h1 : 0 < N / (a + ((-1 : Int) : Rat) * b).den := Nat.div_pos hpl.den_le (Rat.den_pos _)
    rw [decide_eq_decide, ha.lt hb]
    generalize (a + ((-1 : Int) : Rat) * b).num = u at *
    generalize N / (a + ((-1 : Int) : Rat) * b).den = t at *
    constructor
    · intro hu
      have : u * (t : Int) < 0 := Int.mul_neg_of_neg_of_pos hu (by omega)
      omega
    · intro hu
      rcases Int.lt_or_le u 0 with h2 | h2
      · exact h2
      · have : 0 ≤ u * (t : Int) := Int.mul_nonneg h2 (by omega)
        omega
  obtain ⟨q, hq⟩ : ∃ q, a + ((-1 : Int) : Rat) * b = q := ⟨_, rfl⟩
  rw [hq] at p e1
  refine ACall.forget (Low.bool _) ?_
  refine s62_callW (by simp) ?_
  refine Yd ?_
  simp (maxSteps := 2000000) only [s62, ↓Za, ↓Zk, ↓Zr, ↓Ze, ↓Zj, ↓Zs, ↓Zg, ↓Zi, ↓Zf, ↓Zc, ↓Zb, ↓vdn, vup, Zl, Zh, Zm, Zo, Zn, List.map_cons, List.map_nil, cond_true, cond_false, aop, Zv, Zq, Zp, ev, sput, Zt, Zz, Yb, unK, Zd, Zw, Nat.reduceBEq, Nat.reduceAdd, Int.reduceBEq, Int.reduceBNe, Int.reduceLT, Zu, Ya, tup, tyf, qV, frV, boxF, Xb, List.length_append, List.length_singleton, loadF (b2_0 ..), loadF (b2_1 ..), Yx, List.nil_append, List.append_nil, List.toList_toArray, List.cons_append]
  refine p.mono ?_
  rintro _ _ ⟨rfl, rfl⟩
  simp (maxSteps := 2000000) only [s62, ↓Za, ↓Zk, ↓Zr, ↓Ze, ↓Zj, ↓Zs, ↓Zg, ↓Zi, ↓Zf, ↓Zc, ↓Zb, ↓vdn, vup, Zl, Zh, Zm, Zo, Zn, List.map_cons, List.map_nil, cond_true, cond_false, aop, Zv, Zq, Zp, ev, sput, Zt, Zz, Yb, unK, Zd, Zw, Nat.reduceBEq, Nat.reduceAdd, Int.reduceBEq, Int.reduceBNe, Int.reduceLT, Zu, Ya, tup, tyf, qV, frV, fld0, e1]
  exact e2 ..

theorem s70_callW [Tabs Try.prog] {args : List Value} {h : Yc} {Q : Value → Yc → Prop} (hsz : args.length ≤ 5) (hk : AWS Try.prog 5 s70 (Zu Try.prog [.cell 2 26] Q) (Zp 0 args) h) : ACall Try.prog 70 args h Q :=
  Yv Try.func70 rfl (enters_of Try.func70 (by kernel_rfl) rfl) rfl rfl (by decide) s70_strip s70_ok hsz hk
theorem whole_call [Tabs prog] {h : Yc} {k : Int} : Xi prog 70 [Zx k] h (qV (k : Rat)) := by
  refine ACall.forget (low_frV _ _) ?_
  refine s70_callW (by simp) ?_
  refine Yd ?_
  simp (maxSteps := 2000000) only [s70, ↓Za, ↓Zk, ↓Zr, ↓Ze, ↓Zj, ↓Zs, ↓Zg, ↓Zi, ↓Zf, ↓Zc, ↓Zb, ↓vdn, vup, Zl, Zh, Zm, Zo, Zn, List.map_cons, List.map_nil, cond_true, cond_false, aop, Zv, Zq, Zp, ev, sput, Zt, Zz, Yb, unK, Zd, Zw, Nat.reduceBEq, Nat.reduceAdd, Int.reduceBEq, Int.reduceBNe, Int.reduceLT, Zu, Ya, tup, tyf, Xq, Xb, Xp, List.toList_toArray, bldF, Wi (Yl h z0) rfl, loadF (Wr (h := h ++ [z0]) (b := h.length) (by simp) _)]
  exact ⟨rfl, (Ext.app _ _ _).set_ge (Nat.le_refl _) _⟩
end Go.Proofs.Try.Am

namespace Bq
/-- The common multiple, what two have in common, the product. -/
def lcmL (l : List Nat) : Nat := l.foldl Nat.lcm 1
theorem foldl_lcm_dvd {l : List Nat} {m : Nat} : m ∣ l.foldl Nat.lcm m := by
  induction l generalizing m with
  | nil => exact Nat.dvd_refl _
  | cons d l ih => exact Nat.dvd_trans (Nat.dvd_lcm_left m d) ih
theorem foldl_lcm_mem {l : List Nat} {m d : Nat} (h : d ∈ l) : d ∣ l.foldl Nat.lcm m := by
  induction l generalizing m with
  | nil => cases h
  | cons e l ih =>
    rcases List.mem_cons.1 h with rfl | h
    · exact Nat.dvd_trans (Nat.dvd_lcm_right m d) foldl_lcm_dvd
    · exact ih h
end Bq

namespace Bq

/-- A valid fraction from 0 on, as it stands. -/
def okP (p : Int × Int) : Bool := decide (1 ≤ p.2) && decide (p.2 ≤ 10000000000) && decide (0 ≤ p.1) && (Nat.gcd p.1.natAbs p.2.natAbs == 1)
def mulTo : List (Int × Int) → Nat → Nat
  | [], m => m
  | p :: ps, m => if okP p = true ∧ Nat.lcm m p.2.natAbs ≤ 10000000000 then mulTo ps (Nat.lcm m p.2.natAbs) else 0
/-- The common multiple; 0: there is none. -/
def Xt (ps : List (Int × Int)) : Nat := mulTo ps 1
/-- A fraction as it stands, as a number; a number as it stands. -/
def toQ (p : Int × Int) : Rat := Rat.divInt p.1 p.2
def ofQ (q : Rat) : Int × Int := (q.num, (q.den : Int))

theorem ofQ_toQ {p : Int × Int} (h1 : 1 ≤ p.2) (h2 : Nat.gcd p.1.natAbs p.2.natAbs = 1) : ofQ (toQ p) = p := by
  obtain ⟨x, y⟩ := p
  simp only at h1 h2
  obtain ⟨n, rfl⟩ : ∃ n : Nat, y = n := ⟨y.toNat, by omega⟩
  have hn : n ≠ 0 := by omega
  have e : toQ (x, (n : Int)) = ⟨x, n, hn, by simpa using h2⟩ := by
    rw [toQ, Rat.divInt_ofNat]
    exact (Rat.mk_eq_mkRat x n hn _).symm
  rw [e]; rfl
theorem okP_ofQ {p : Int × Int} (h : okP p = true) : ofQ (toQ p) = p := by
  simp only [okP, Bool.and_eq_true, decide_eq_true_eq, beq_iff_eq] at h
  exact ofQ_toQ h.1.1.1 h.2
theorem mulTo_spec : ∀ (ps : List (Int × Int)) (m : Nat), mulTo ps m ≠ 0 → m ≤ 10000000000 → (∀ p ∈ ps, okP p = true) ∧ mulTo ps m = (ps.map fun p => p.2.natAbs).foldl Nat.lcm m ∧ mulTo ps m ≤ 10000000000
  | [], m, h, hm => ⟨(fun _ h => by cases h), rfl, hm⟩
  | p :: ps, m, h, hm => by
    rw [mulTo] at h ⊢
    split at h
    · rename_i hc
      rw [if_pos hc]
      obtain ⟨h1, h2, h3⟩ := mulTo_spec ps _ h hc.2
      refine ⟨fun q hq => ?_, h2, h3⟩
      rcases List.mem_cons.1 hq with rfl | hq
      · exact hc.1
      · exact h1 q hq
    · exact absurd rfl h
theorem mult_spec {ps : List (Int × Int)} (h : Xt ps ≠ 0) : (∀ p ∈ ps, okP p = true) ∧ Xt ps = lcmL (ps.map fun p => p.2.natAbs) ∧ Xt ps ≤ 10000000000 := mulTo_spec ps 1 h (by decide)
theorem mult_dvd {ps : List (Int × Int)} (h : Xt ps ≠ 0) {p : Int × Int} (hp : p ∈ ps) : (toQ p).den ∣ Xt ps := by
  obtain ⟨h1, h2, h3⟩ := mult_spec h
  have e := okP_ofQ (h1 p hp)
  have e2 : (toQ p).den = p.2.natAbs := by
    have := congrArg Prod.snd e
    simp only [ofQ] at this
    rw [← this]; rfl
  rw [h2, e2]
  exact foldl_lcm_mem (List.mem_map.2 ⟨p, hp, rfl⟩)
theorem okP_pos {p : Int × Int} (h : okP p = true) : 0 ≤ toQ p := by
  simp only [okP, Bool.and_eq_true, decide_eq_true_eq] at h
  exact Rat.divInt_nonneg h.1.2 (by omega)
theorem okP_le {p : Int × Int} (h : okP p = true) : toQ p ≤ 1 ↔ p.1 ≤ p.2 := by
  have hp := okP_ofQ h
  have h1 : (toQ p).num = p.1 := congrArg Prod.fst hp
  have h2 : ((toQ p).den : Int) = p.2 := congrArg Prod.snd hp
  rw [Rat.le_iff, h1, h2]
  simp

/-- The sum of the first ones. -/
def Xo (g : Nat → Rat) : Nat → Rat
  | 0 => 0
  | k + 1 => Xo g k + g k
section
variable {g f : Nat → Rat}
theorem sumTo_nonneg {n : Nat} (h : ∀ i, i < n → 0 ≤ g i) : 0 ≤ Xo g n := by
  induction n with
  | zero => exact Rat.le_refl
  | succ n ih => exact Rat.add_nonneg (ih fun i hi => h i (by omega)) (h n (by omega))
theorem sumTo_mono {k n : Nat} (hk : k ≤ n) (h : ∀ i, i < n → 0 ≤ g i) : Xo g k ≤ Xo g n := by
  induction n with
  | zero => rw [Nat.le_zero.1 hk]; exact Rat.le_refl
  | succ n ih =>
    rcases Nat.lt_or_ge n k with h1 | h1
    · rw [show k = n + 1 by omega]; exact Rat.le_refl
    · have h2 := ih h1 fun i hi => h i (by omega)
      have h3 := h n (by omega)
      rw [Xo]; grind
theorem sumTo_congr {n : Nat} (h : ∀ i, i < n → f i = g i) : Xo f n = Xo g n := by
  induction n with
  | zero => rfl
  | succ n ih => rw [Xo, Xo, ih fun i hi => h i (by omega), h n (by omega)]
theorem sumTo_den {N : Nat} {n : Nat} (hN : 0 < N) (h : ∀ i, i < n → (g i).den ∣ N) : (Xo g n).den ∣ N := by
  induction n with
  | zero => exact Nat.one_dvd _
  | succ n ih =>
    have h1 := ih fun i hi => h i (by omega)
    have h2 := h n (by omega)
    rw [Xo]
    have e := Rp.up' (Rp.own (Xo g n)) h1 hN
    have e2 := Rp.up' (Rp.own (g n)) h2 hN
    have := e.plus e2 1
    have h3 := this.dvd
    have e3 : Xo g n + ((1 : Int) : Rat) * g n = Xo g n + g n := by
      rw [show (((1 : Int)) : Rat) = 1 from rfl, Rat.one_mul]
    rwa [e3] at h3
end
theorem rp_of {N : Nat} {q : Rat} (hN : 0 < N) (h : q.den ∣ N) : ∃ x, Rp N x q := ⟨_, Rp.up' (Rp.own q) h hN⟩
/-- Parts of what is bounded. -/
theorem Rp.bound {N C : Nat} {x : Int} {q : Rat} (h : Rp N x q) (h1 : -(C : Rat) ≤ q) (h2 : q ≤ C) : x.natAbs ≤ C * N := by
  have hN : (0 : Rat) ≤ N := Rat.natCast_nonneg
  have e := h.2
  have u1 := Rat.mul_le_mul_of_nonneg_right h2 hN
  have u2 := Rat.mul_le_mul_of_nonneg_right h1 hN
  rw [e] at u1 u2
  have v1 : x ≤ ((C * N : Nat) : Int) := by
    rw [← Rat.intCast_le_intCast]; push_cast; exact u1
  have v2 : -((C * N : Nat) : Int) ≤ x := by
    rw [← Rat.intCast_le_intCast]; push_cast
    rw [Rat.neg_mul] at u2; exact u2
  omega

end Bq

namespace Bq

/-- Lists of fractions in least terms. -/
def Vld (ps : List (Int × Int)) : Prop := ∀ p ∈ ps, ofQ (toQ p) = p
/-- The w-th one as a number. -/
def fq (ps : List (Int × Int)) (w : Nat) : Rat := toQ (ps.getD w (0, 0))
theorem Wa {ps : List (Int × Int)} {k : Nat} (hk : k < ps.length) : ps.getD k (0, 0) ∈ ps := by
  rw [List.getD, List.getElem?_eq_getElem hk]; exact List.getElem_mem hk
/-- A chance with a divisor up to m. -/
def chB (m : Int) (p : Int × Int) : Bool := (decide (1 ≤ p.2) && (decide (p.2 ≤ m) && (Nat.gcd p.1.natAbs p.2.natAbs == 1))) && (decide (0 ≤ p.1) && decide (p.1 ≤ p.2))
theorem chB_okP (p : Int × Int) : chB 10000000000 p = (okP p && decide (p.1 ≤ p.2)) := by
  rw [chB, okP, Bool.eq_iff_iff]
  simp only [Bool.and_eq_true, decide_eq_true_eq, beq_iff_eq]
  constructor
  · rintro ⟨⟨h1, h2, h3⟩, h4, h5⟩; exact ⟨⟨⟨⟨h1, h2⟩, h4⟩, h3⟩, h5⟩
  · rintro ⟨⟨⟨⟨h1, h2⟩, h4⟩, h3⟩, h5⟩; exact ⟨⟨h1, h2, h3⟩, h4, h5⟩
/-- Valid chances. -/
structure Chn (ps : List (Int × Int)) : Prop where
  m : Xt ps ≠ 0
  le : ∀ p ∈ ps, p.1 ≤ p.2
theorem Chn.ok {ps : List (Int × Int)} (c : Chn ps) {p : Int × Int} (hp : p ∈ ps) : okP p = true := (mult_spec c.m).1 p hp
theorem Chn.vld {ps : List (Int × Int)} (c : Chn ps) : Vld ps := fun p hp => okP_ofQ (c.ok hp)
/-- A fraction's parts. -/
theorem Chn.rp {ps : List (Int × Int)} (c : Chn ps) {p : Int × Int} (hp : p ∈ ps) : Rp (Xt ps) ((Xt ps : Int) / p.2 * p.1) (toQ p) ∧ 0 ≤ (Xt ps : Int) / p.2 * p.1 ∧ (Xt ps : Int) / p.2 * p.1 ≤ Xt ps ∧ 1 ≤ p.2 ∧ 0 ≤ p.1 ∧ (p.2 ∣ (Xt ps : Int)) := by
  have hok := c.ok hp
  have hd := mult_dvd c.m hp
  have e := okP_ofQ hok
  have e1 : (toQ p).num = p.1 := congrArg Prod.fst e
  have e2 : ((toQ p).den : Int) = p.2 := congrArg Prod.snd e
  have hle := c.le p hp
  simp only [okP, Bool.and_eq_true, decide_eq_true_eq] at hok
  have r := Rp.up' (Rp.own (toQ p)) hd (Nat.pos_of_ne_zero c.m)
  have e3 : (Xt ps : Int) / p.2 * p.1 = (toQ p).num * ((Xt ps / (toQ p).den : Nat) : Int) := by
    rw [e1, Int.natCast_ediv, e2, Int.mul_comm]
  rw [e3]
  have hn : 0 ≤ (toQ p).num * ((Xt ps / (toQ p).den : Nat) : Int) := Int.mul_nonneg (by omega) (Int.natCast_nonneg _)
  refine ⟨r, hn, ?_, by omega, by omega, ?_⟩
  · have hb := r.bound (C := 1) (by have := okP_pos (c.ok hp); have h2 : (0 : Rat) ≤ ((1 : Nat) : Rat) := Rat.natCast_nonneg; have : -((1 : Nat) : Rat) ≤ 0 := by decide
                                    exact Rat.le_trans this ‹0 ≤ toQ p›) ((okP_le (c.ok hp)).2 hle)
    omega
  · rw [← e2]; exact Int.natCast_dvd_natCast.2 hd
theorem Chn.unit {ps : List (Int × Int)} (c : Chn ps) {k : Nat} (hk : k < ps.length) : 0 ≤ fq ps k ∧ fq ps k ≤ 1 ∧ (fq ps k).den ∣ Xt ps :=
  ⟨okP_pos (c.ok (Wa hk)), (okP_le (c.ok (Wa hk))).2 (c.le _ (Wa hk)), mult_dvd c.m (Wa hk)⟩

structure Fc (ps : List (Int × Int)) : Prop where
  len : 2 ≤ ps.length ∧ ps.length ≤ 5
  c : Chn ps
  den : ∀ p ∈ ps, p.2 ≤ 60
  sum : Xo (fq ps) ps.length = 1
  small : Xt ps ≤ 27885
theorem Fc.unit {ps : List (Int × Int)} (c : Fc ps) {k : Nat} (hk : k < ps.length) : 0 ≤ fq ps k ∧ fq ps k ≤ 1 := ⟨(c.c.unit hk).1, (c.c.unit hk).2.1⟩
theorem add_den_dvd {a b : Rat} {N : Nat} (k : Int) (hN : 0 < N) (ha : a.den ∣ N) (hb : b.den ∣ N) : (a + k * b).den ∣ N := by
  obtain ⟨x, hx⟩ := rp_of hN ha
  obtain ⟨y, hy⟩ := rp_of hN hb
  exact (hx.plus hy k).dvd
end Bq

namespace Go.Proofs.Try.Am
open Go.Am Bq
set_option maxRecDepth 100000
set_option maxHeartbeats 1000000

theorem s68_callW [Tabs Try.prog] {args : List Value} {h : Yc} {Q : Value → Yc → Prop} (hsz : args.length ≤ 31) (hk : AWS Try.prog 31 s68 (Zu Try.prog [.cell 4 26] Q) (Zp 0 args) h) : ACall Try.prog 68 args h Q :=
  Yv Try.func68 rfl (enters_of Try.func68 (by kernel_rfl) rfl) rfl rfl (by decide) s68_strip s68_ok hsz hk
theorem rfrac_call [Tabs prog] {h : Yc} {a b : Int} (hb : b ≠ 0) (ha : a.natAbs < 9223372036854775808) (hb2 : b.natAbs < 9223372036854775808) : Xi prog 68 [Zx a, Zx b] h (qV (Rat.divInt a b)) := by
  have c0 := Yl h z0
  have hE0 : Ext (fun _ => False) h (h ++ [z0]) := Ext.app _ _ _
  obtain ⟨x, n, hn, hx, hn2, hq, hneg, hpos⟩ : ∃ (x : Int) (n : Nat), 0 < n ∧ x.natAbs < 9223372036854775808 ∧ n < 9223372036854775808 ∧ Rat.divInt x n = Rat.divInt a b ∧ (b < 0 → subV .i64 0 a = x ∧ subV .i64 0 b = n) ∧ (¬ b < 0 → a = x ∧ b = n) := by
    by_cases h0 : b < 0
    · refine ⟨-a, b.natAbs, by omega, by omega, hb2, ?_, fun _ => ⟨?_, ?_⟩, fun h => absurd h0 h⟩
      · rw [show ((b.natAbs : Nat) : Int) = -b by omega]; exact Rat.neg_divInt_neg a b
      · rw [subV_id (by omega) (by omega)]; omega
      · rw [subV_id (by omega) (by omega)]; omega
    · exact ⟨a, b.natAbs, by omega, ha, hb2, by rw [show ((b.natAbs : Nat) : Int) = b by omega], fun h => absurd h h0, fun _ => ⟨rfl, by omega⟩⟩
  refine ACall.forget (low_frV _ _) ?_
  refine s68_callW (by simp) ?_
  simp only [s68]
  refine Zy fun N1 hN1 => ?_
  simp (maxSteps := 2000000) only [s68, ↓Za, ↓Zk, ↓Zr, ↓Ze, ↓Zj, ↓Zs, ↓Zg, ↓Zi, ↓Zf, ↓Zc, ↓Zb, ↓vdn, vup, Zl, Zh, Zm, Zo, Zn, List.map_cons, List.map_nil, cond_true, cond_false, aop, Zv, Zq, Zp, ev, sput, Zt, Zz, Yb, unK, Zd, Zw, Nat.reduceBEq, Nat.reduceAdd, Int.reduceBEq, Int.reduceBNe, Int.reduceLT, Zu, Ya, tup, tyf, Xq, Xb, Xp]
  refine hN1 [(0, Zx a), (1, Zx b), (4, .pointer (some ⟨h.length, 0, none⟩))] _ _ ?_ (by simp (maxSteps := 2000000) only [↓Za, ↓Zk, ↓Zr, ↓Ze, ↓Zj, ↓Zs, ↓Zg, ↓Zi, ↓Zf, ↓Zc, ↓Zb, ↓vdn, vup, Zl, Zh, Zm, Zo, Zn, List.map_cons, List.map_nil, cond_true, cond_false, aop, Zv, Zq, Zp, ev, sput, Zt, Zz, Yb, unK, Zd, Zw, Nat.reduceBEq, Nat.reduceAdd, Int.reduceBEq, Int.reduceBNe, Int.reduceLT, Zu, Ya, tup, tyf])
  clear hN1
  try clear N1
  refine Zy fun M hM => ?_
  have key : ∀ e, ELe e [(0, Zx x), (1, Zx (n : Int)), (4, .pointer (some ⟨h.length, 0, none⟩))] → M e (h ++ [z0]) := by
    intro e he
    refine hM [(0, Zx x), (1, Zx (n : Int)), (4, .pointer (some ⟨h.length, 0, none⟩))] _ _ ?_ he
    refine Zy fun N2 hN2 => ?_
    simp (maxSteps := 2000000) only [s68, ↓Za, ↓Zk, ↓Zr, ↓Ze, ↓Zj, ↓Zs, ↓Zg, ↓Zi, ↓Zf, ↓Zc, ↓Zb, ↓vdn, vup, Zl, Zh, Zm, Zo, Zn, List.map_cons, List.map_nil, cond_true, cond_false, aop, Zv, Zq, Zp, ev, sput, Zt, Zz, Yb, unK, Zd, Zw, Nat.reduceBEq, Nat.reduceAdd, Int.reduceBEq, Int.reduceBNe, Int.reduceLT, Zu, Ya, tup, tyf, mmK, if_true, max_abs hx]
    refine hN2 [(0, Zx x), (1, Zx (n : Int)), (4, .pointer (some ⟨h.length, 0, none⟩)), (5, Zx (x.natAbs : Nat)), (6, Zx (n : Int))] _ _ ?_ (by simp (maxSteps := 2000000) only [↓Za, ↓Zk, ↓Zr, ↓Ze, ↓Zj, ↓Zs, ↓Zg, ↓Zi, ↓Zf, ↓Zc, ↓Zb, ↓vdn, vup, Zl, Zh, Zm, Zo, Zn, List.map_cons, List.map_nil, cond_true, cond_false, aop, Zv, Zq, Zp, ev, sput, Zt, Zz, Yb, unK, Zd, Zw, Nat.reduceBEq, Nat.reduceAdd, Int.reduceBEq, Int.reduceBNe, Int.reduceLT, Zu, Ya, tup, tyf])
    clear hN2
    try clear N2
    refine Ye fun M2 hM2 => ?_
    refine Yf ?_
    refine Yh fun Q hQ => ?_
    refine Yz (γ := Nat × Nat) (fun s => Nat.gcd s.1 s.2 = Nat.gcd x.natAbs n ∧ s.1 < 9223372036854775808 ∧ s.2 < 9223372036854775808)
      (fun s => ([(0, Zx x), (1, Zx (n : Int)), (4, .pointer (some ⟨h.length, 0, none⟩)), (5, Zx (s.1 : Nat)), (6, Zx (s.2 : Nat))], h ++ [z0])) (fun s => s.2) (x.natAbs, n) ⟨rfl, hx, hn2⟩ (by simp (maxSteps := 2000000) only [↓Za, ↓Zk, ↓Zr, ↓Ze, ↓Zj, ↓Zs, ↓Zg, ↓Zi, ↓Zf, ↓Zc, ↓Zb, ↓vdn, vup, Zl, Zh, Zm, Zo, Zn, List.map_cons, List.map_nil, cond_true, cond_false, aop, Zv, Zq, Zp, ev, sput, Zt, Zz, Yb, unK, Zd, Zw, Nat.reduceBEq, Nat.reduceAdd, Int.reduceBEq, Int.reduceBNe, Int.reduceLT, Zu, Ya, tup, tyf]) rfl ?_
    rintro ⟨u, w⟩ ⟨huw, hu, hw⟩
    simp only at huw hu hw
    refine Yh fun Q2 hQ2 => ?_
    simp only [l68_0]
    by_cases hw0 : w = 0
    · subst hw0
      have e0 : (((0 : Nat) : Int) != 0) = false := rfl
      rw [Nat.gcd_zero_right] at huw
      subst huw
      refine Zy fun N3 hN3 => ?_
      simp (maxSteps := 2000000) only [s68, ↓Za, ↓Zk, ↓Zr, ↓Ze, ↓Zj, ↓Zs, ↓Zg, ↓Zi, ↓Zf, ↓Zc, ↓Zb, ↓vdn, vup, Zl, Zh, Zm, Zo, Zn, List.map_cons, List.map_nil, cond_true, cond_false, aop, Zv, Zq, Zp, ev, sput, Zt, Zz, Yb, unK, Zd, Zw, Nat.reduceBEq, Nat.reduceAdd, Int.reduceBEq, Int.reduceBNe, Int.reduceLT, Zu, Ya, tup, tyf, e0]
      refine hQ2 _ _ _ (hQ _ _ _ ?_)
      simp (maxSteps := 2000000) only [s68, ↓Za, ↓Zk, ↓Zr, ↓Ze, ↓Zj, ↓Zs, ↓Zg, ↓Zi, ↓Zf, ↓Zc, ↓Zb, ↓vdn, vup, Zl, Zh, Zm, Zo, Zn, List.map_cons, List.map_nil, cond_true, cond_false, aop, Zv, Zq, Zp, ev, sput, Zt, Zz, Yb, unK, Zd, Zw, Nat.reduceBEq, Nat.reduceAdd, Int.reduceBEq, Int.reduceBNe, Int.reduceLT, Zu, Ya, tup, tyf, if_true]
      refine hM2 [(0, Zx x), (1, Zx (n : Int)), (4, .pointer (some ⟨h.length, 0, none⟩)), (5, Zx (Nat.gcd x.natAbs n : Nat))] _ _ ?_ (by simp (maxSteps := 2000000) only [↓Za, ↓Zk, ↓Zr, ↓Ze, ↓Zj, ↓Zs, ↓Zg, ↓Zi, ↓Zf, ↓Zc, ↓Zb, ↓vdn, vup, Zl, Zh, Zm, Zo, Zn, List.map_cons, List.map_nil, cond_true, cond_false, aop, Zv, Zq, Zp, ev, sput, Zt, Zz, Yb, unK, Zd, Zw, Nat.reduceBEq, Nat.reduceAdd, Int.reduceBEq, Int.reduceBNe, Int.reduceLT, Zu, Ya, tup, tyf])
      clear hM2
      try clear M2
      have hg : ¬ ((Nat.gcd x.natAbs n : Nat) : Int) = 0 := by have := Nat.gcd_pos_of_pos_right x.natAbs hn; omega
      have q1 : quoV .i64 x ((Nat.gcd x.natAbs n : Nat) : Int) = (Rat.divInt a b).num := by rw [quo_dvd hx (gcd_dvd_int _ _), (terms hn).1, hq]
      have q2 : quoV .i64 (n : Int) ((Nat.gcd x.natAbs n : Nat) : Int) = (Rat.divInt a b).den := by
        rw [quo_dvd (by omega) (Int.natCast_dvd_natCast.2 (Nat.gcd_dvd_right _ _)), ← hq, ← (terms hn).2, Int.natCast_ediv]
      refine Yd ?_
      simp only [q68_6]
      refine aw_cut fun N hN => ?_
      refine Xg [] (by kernel_rfl) (by kernel_rfl) (by kernel_rfl) (by kernel_rfl) ?_
      simp (maxSteps := 2000000) only [s68, ↓Za, ↓Zk, ↓Zr, ↓Ze, ↓Zj, ↓Zs, ↓Zg, ↓Zi, ↓Zf, ↓Zc, ↓Zb, ↓vdn, vup, Zl, Zh, Zm, Zo, Zn, List.map_cons, List.map_nil, cond_true, cond_false, aop, Zv, Zq, Zp, ev, sput, Zt, Zz, Yb, unK, Zd, Zw, Nat.reduceBEq, Nat.reduceAdd, Int.reduceBEq, Int.reduceBNe, Int.reduceLT, Zu, Ya, tup, tyf, ne_eq, hg, not_false_eq_true, q1, q2, List.toList_toArray, bldF, Wi c0 rfl]
      refine hN _ _ ?_
      simp (maxSteps := 2000000) only [s68, ↓Za, ↓Zk, ↓Zr, ↓Ze, ↓Zj, ↓Zs, ↓Zg, ↓Zi, ↓Zf, ↓Zc, ↓Zb, ↓vdn, vup, Zl, Zh, Zm, Zo, Zn, List.map_cons, List.map_nil, cond_true, cond_false, aop, Zv, Zq, Zp, ev, sput, Zt, Zz, Yb, unK, Zd, Zw, Nat.reduceBEq, Nat.reduceAdd, Int.reduceBEq, Int.reduceBNe, Int.reduceLT, Zu, Ya, tup, tyf, loadF (Wr (h := h ++ [Blk.cells [.int .i64 0, .int .i64 0] 26 false]) (b := h.length) (by simp) _)]
      exact ⟨rfl, hE0.set_ge (Nat.le_refl _) _⟩
    · have e0 : (((w : Nat) : Int) != 0) = true := by
        have : ((w : Nat) : Int) ≠ 0 := by omega
        simpa using this
      have e1 : ¬ ((w : Nat) : Int) = 0 := by omega
      have etm : ((u : Nat) : Int).tmod ((w : Nat) : Int) = ((u % w : Nat) : Int) := by rw [Int.tmod_eq_emod_of_nonneg (by omega)]; rfl
      have hlt := Nat.mod_lt u (show w > 0 by omega)
      refine Zy fun N4 hN4 => ?_
      simp (maxSteps := 2000000) only [s68, ↓Za, ↓Zk, ↓Zr, ↓Ze, ↓Zj, ↓Zs, ↓Zg, ↓Zi, ↓Zf, ↓Zc, ↓Zb, ↓vdn, vup, Zl, Zh, Zm, Zo, Zn, List.map_cons, List.map_nil, cond_true, cond_false, aop, Zv, Zq, Zp, ev, sput, Zt, Zz, Yb, unK, Zd, Zw, Nat.reduceBEq, Nat.reduceAdd, Int.reduceBEq, Int.reduceBNe, Int.reduceLT, Zu, Ya, tup, tyf, e0]
      refine hN4 [(0, Zx x), (1, Zx (n : Int)), (4, .pointer (some ⟨h.length, 0, none⟩)), (5, Zx (u : Nat)), (6, Zx (w : Nat))] _ _ ?_ (by simp (maxSteps := 2000000) only [↓Za, ↓Zk, ↓Zr, ↓Ze, ↓Zj, ↓Zs, ↓Zg, ↓Zi, ↓Zf, ↓Zc, ↓Zb, ↓vdn, vup, Zl, Zh, Zm, Zo, Zn, List.map_cons, List.map_nil, cond_true, cond_false, aop, Zv, Zq, Zp, ev, sput, Zt, Zz, Yb, unK, Zd, Zw, Nat.reduceBEq, Nat.reduceAdd, Int.reduceBEq, Int.reduceBNe, Int.reduceLT, Zu, Ya, tup, tyf])
      clear hN4
      try clear N4
      refine Yd ?_
      simp only [q68_5, Ze]
      refine Xg [] (by kernel_rfl) (by kernel_rfl) (by kernel_rfl) (by kernel_rfl) ?_
      simp (maxSteps := 2000000) only [s68, ↓Za, ↓Zk, ↓Zr, ↓Ze, ↓Zj, ↓Zs, ↓Zg, ↓Zi, ↓Zf, ↓Zc, ↓Zb, ↓vdn, vup, Zl, Zh, Zm, Zo, Zn, List.map_cons, List.map_nil, cond_true, cond_false, aop, Zv, Zq, Zp, ev, sput, Zt, Zz, Yb, unK, Zd, Zw, Nat.reduceBEq, Nat.reduceAdd, Int.reduceBEq, Int.reduceBNe, Int.reduceLT, Zu, Ya, tup, tyf, ne_eq, e1, not_false_eq_true, etm]
      refine hQ2 _ _ _ ⟨(w, u % w), ⟨?_, hw, by simp only; omega⟩, hlt, by simp (maxSteps := 2000000) only [↓Za, ↓Zk, ↓Zr, ↓Ze, ↓Zj, ↓Zs, ↓Zg, ↓Zi, ↓Zf, ↓Zc, ↓Zb, ↓vdn, vup, Zl, Zh, Zm, Zo, Zn, List.map_cons, List.map_nil, cond_true, cond_false, aop, Zv, Zq, Zp, ev, sput, Zt, Zz, Yb, unK, Zd, Zw, Nat.reduceBEq, Nat.reduceAdd, Int.reduceBEq, Int.reduceBNe, Int.reduceLT, Zu, Ya, tup, tyf], rfl⟩
      simp only
      rw [← huw, Nat.gcd_comm u w, Nat.gcd_rec w u, Nat.gcd_comm]
  by_cases hb0 : b < 0
  · simp (maxSteps := 2000000) only [s68, ↓Za, ↓Zk, ↓Zr, ↓Ze, ↓Zj, ↓Zs, ↓Zg, ↓Zi, ↓Zf, ↓Zc, ↓Zb, ↓vdn, vup, Zl, Zh, Zm, Zo, Zn, List.map_cons, List.map_nil, cond_true, cond_false, aop, Zv, Zq, Zp, ev, sput, Zt, Zz, Yb, unK, Zd, Zw, Nat.reduceBEq, Nat.reduceAdd, Int.reduceBEq, Int.reduceBNe, Int.reduceLT, Zu, Ya, tup, tyf, hb0, (hneg hb0).1, (hneg hb0).2]
    exact key _ (by simp (maxSteps := 2000000) only [↓Za, ↓Zk, ↓Zr, ↓Ze, ↓Zj, ↓Zs, ↓Zg, ↓Zi, ↓Zf, ↓Zc, ↓Zb, ↓vdn, vup, Zl, Zh, Zm, Zo, Zn, List.map_cons, List.map_nil, cond_true, cond_false, aop, Zv, Zq, Zp, ev, sput, Zt, Zz, Yb, unK, Zd, Zw, Nat.reduceBEq, Nat.reduceAdd, Int.reduceBEq, Int.reduceBNe, Int.reduceLT, Zu, Ya, tup, tyf])
  · simp (maxSteps := 2000000) only [s68, ↓Za, ↓Zk, ↓Zr, ↓Ze, ↓Zj, ↓Zs, ↓Zg, ↓Zi, ↓Zf, ↓Zc, ↓Zb, ↓vdn, vup, Zl, Zh, Zm, Zo, Zn, List.map_cons, List.map_nil, cond_true, cond_false, aop, Zv, Zq, Zp, ev, sput, Zt, Zz, Yb, unK, Zd, Zw, Nat.reduceBEq, Nat.reduceAdd, Int.reduceBEq, Int.reduceBNe, Int.reduceLT, Zu, Ya, tup, tyf, hb0]
    exact key _ (by simp (maxSteps := 2000000) only [↓Za, ↓Zk, ↓Zr, ↓Ze, ↓Zj, ↓Zs, ↓Zg, ↓Zi, ↓Zf, ↓Zc, ↓Zb, ↓vdn, vup, Zl, Zh, Zm, Zo, Zn, List.map_cons, List.map_nil, cond_true, cond_false, aop, Zv, Zq, Zp, ev, sput, Zt, Zz, Yb, unK, Zd, Zw, Nat.reduceBEq, Nat.reduceAdd, Int.reduceBEq, Int.reduceBNe, Int.reduceLT, Zu, Ya, tup, tyf, (hpos hb0).1, (hpos hb0).2])

theorem s118_callW [Tabs Try.prog] {args : List Value} {h : Yc} {Q : Value → Yc → Prop} (hsz : args.length ≤ 22) (hk : AWS Try.prog 22 s118 (Zu Try.prog [.tmp 4] Q) (Zp 0 args) h) : ACall Try.prog 118 args h Q :=
  Yv Try.func118 rfl (enters_of Try.func118 (by kernel_rfl) rfl) rfl rfl (by decide) s118_strip s118_ok hsz hk
theorem lowest_call [Tabs prog] {h : Yc} {x y m : Int} (hm : m < 9223372036854775808) : Xi prog 118 [frV x y, Zx m] h (.bool (decide (1 ≤ y) && (decide (y ≤ m) && (Nat.gcd x.natAbs y.natAbs == 1)))) := by
  have hE : Ext (fun _ => False) h (h ++ [fC x y]) := Ext.app _ _ _
  refine ACall.forget (Low.bool _) ?_
  refine s118_callW (by simp) ?_
  refine Yd ?_
  by_cases h1 : 1 ≤ y
  · by_cases h2 : y ≤ m
    · simp (maxSteps := 2000000) only [s118, ↓Za, ↓Zk, ↓Zr, ↓Ze, ↓Zj, ↓Zs, ↓Zg, ↓Zi, ↓Zf, ↓Zc, ↓Zb, ↓vdn, vup, Zl, Zh, Zm, Zo, Zn, List.map_cons, List.map_nil, cond_true, cond_false, aop, Zv, Zq, Zp, ev, sput, Zt, Zz, Yb, unK, Zd, Zw, Nat.reduceBEq, Nat.reduceAdd, Int.reduceBEq, Int.reduceBNe, Int.reduceLT, Zu, Ya, tup, tyf, frV, boxF, Xb, fA0, fA1, Ws (Yl h _), Xx (Yl h _), ge_iff_le, h1, h2, Yx, List.nil_append, List.append_nil, List.toList_toArray, List.cons_append]
      refine (gcd_call (.inr (by omega)) (by omega)).mono ?_
      rintro _ _ ⟨rfl, rfl⟩
      have e : ((((Nat.gcd x.natAbs y.natAbs : Nat)) : Int) == 1) = (Nat.gcd x.natAbs y.natAbs == 1) := by
        rw [Bool.eq_iff_iff]; simp; omega
      simp (maxSteps := 2000000) only [s118, ↓Za, ↓Zk, ↓Zr, ↓Ze, ↓Zj, ↓Zs, ↓Zg, ↓Zi, ↓Zf, ↓Zc, ↓Zb, ↓vdn, vup, Zl, Zh, Zm, Zo, Zn, List.map_cons, List.map_nil, cond_true, cond_false, aop, Zv, Zq, Zp, ev, sput, Zt, Zz, Yb, unK, Zd, Zw, Nat.reduceBEq, Nat.reduceAdd, Int.reduceBEq, Int.reduceBNe, Int.reduceLT, Zu, Ya, tup, tyf, e, h1, h2, decide_true, Bool.true_and]
      exact hE
    · simp (maxSteps := 2000000) only [s118, ↓Za, ↓Zk, ↓Zr, ↓Ze, ↓Zj, ↓Zs, ↓Zg, ↓Zi, ↓Zf, ↓Zc, ↓Zb, ↓vdn, vup, Zl, Zh, Zm, Zo, Zn, List.map_cons, List.map_nil, cond_true, cond_false, aop, Zv, Zq, Zp, ev, sput, Zt, Zz, Yb, unK, Zd, Zw, Nat.reduceBEq, Nat.reduceAdd, Int.reduceBEq, Int.reduceBNe, Int.reduceLT, Zu, Ya, tup, tyf, frV, boxF, Xb, fA0, fA1, Ws (Yl h _), Xx (Yl h _), ge_iff_le, h1, h2, decide_true, decide_false, Bool.true_and, Bool.false_and]
      exact hE
  · simp (maxSteps := 2000000) only [s118, ↓Za, ↓Zk, ↓Zr, ↓Ze, ↓Zj, ↓Zs, ↓Zg, ↓Zi, ↓Zf, ↓Zc, ↓Zb, ↓vdn, vup, Zl, Zh, Zm, Zo, Zn, List.map_cons, List.map_nil, cond_true, cond_false, aop, Zv, Zq, Zp, ev, sput, Zt, Zz, Yb, unK, Zd, Zw, Nat.reduceBEq, Nat.reduceAdd, Int.reduceBEq, Int.reduceBNe, Int.reduceLT, Zu, Ya, tup, tyf, frV, boxF, Xb, fA0, fA1, Ws (Yl h _), Xx (Yl h _), ge_iff_le, h1, decide_false, Bool.false_and]
    exact hE

theorem s107_callW [Tabs Try.prog] {args : List Value} {h : Yc} {Q : Value → Yc → Prop} (hsz : args.length ≤ 20) (hk : AWS Try.prog 20 s107 (Zu Try.prog [.tmp 4] Q) (Zp 0 args) h) : ACall Try.prog 107 args h Q :=
  Yv Try.func107 rfl (enters_of Try.func107 (by kernel_rfl) rfl) rfl rfl (by decide) s107_strip s107_ok hsz hk
theorem chance_call [Tabs prog] {h : Yc} {x y m : Int} (hm : m < 9223372036854775808) : Xi prog 107 [frV x y, Zx m] h (.bool (chB m (x, y))) := by
  have hE : Ext (fun _ => False) h (h ++ [fC x y]) := Ext.app _ _ _
  refine ACall.forget (Low.bool _) ?_
  refine s107_callW (by simp) ?_
  refine Yd ?_
  simp (maxSteps := 2000000) only [s107, ↓Za, ↓Zk, ↓Zr, ↓Ze, ↓Zj, ↓Zs, ↓Zg, ↓Zi, ↓Zf, ↓Zc, ↓Zb, ↓vdn, vup, Zl, Zh, Zm, Zo, Zn, List.map_cons, List.map_nil, cond_true, cond_false, aop, Zv, Zq, Zp, ev, sput, Zt, Zz, Yb, unK, Zd, Zw, Nat.reduceBEq, Nat.reduceAdd, Int.reduceBEq, Int.reduceBNe, Int.reduceLT, Zu, Ya, tup, tyf, frV, boxF, Xb, loadF (Yl h _), Yx, List.nil_append, List.append_nil, List.toList_toArray, List.cons_append]
  refine (show Xi prog 118 [.agg #[Zx x, Zx y], Zx m] (h ++ [Blk.cells [Zx x, Zx y] 26 false]) _ from lowest_call hm).mono ?_
  rintro _ _ ⟨rfl, rfl⟩
  rw [chB]
  cases hl : (decide (1 ≤ y) && (decide (y ≤ m) && (Nat.gcd x.natAbs y.natAbs == 1))) with
  | false =>
    simp (maxSteps := 2000000) only [s107, ↓Za, ↓Zk, ↓Zr, ↓Ze, ↓Zj, ↓Zs, ↓Zg, ↓Zi, ↓Zf, ↓Zc, ↓Zb, ↓vdn, vup, Zl, Zh, Zm, Zo, Zn, List.map_cons, List.map_nil, cond_true, cond_false, aop, Zv, Zq, Zp, ev, sput, Zt, Zz, Yb, unK, Zd, Zw, Nat.reduceBEq, Nat.reduceAdd, Int.reduceBEq, Int.reduceBNe, Int.reduceLT, Zu, Ya, tup, tyf, hl, Bool.false_and]
    exact hE
  | true =>
    by_cases h1 : 0 ≤ x
    · simp (maxSteps := 2000000) only [s107, ↓Za, ↓Zk, ↓Zr, ↓Ze, ↓Zj, ↓Zs, ↓Zg, ↓Zi, ↓Zf, ↓Zc, ↓Zb, ↓vdn, vup, Zl, Zh, Zm, Zo, Zn, List.map_cons, List.map_nil, cond_true, cond_false, aop, Zv, Zq, Zp, ev, sput, Zt, Zz, Yb, unK, Zd, Zw, Nat.reduceBEq, Nat.reduceAdd, Int.reduceBEq, Int.reduceBNe, Int.reduceLT, Zu, Ya, tup, tyf, hl, fA0, fA1, Ws (Yl h _), Xx (Yl h _), ge_iff_le, h1, decide_true, Bool.true_and]
      exact hE
    · simp (maxSteps := 2000000) only [s107, ↓Za, ↓Zk, ↓Zr, ↓Ze, ↓Zj, ↓Zs, ↓Zg, ↓Zi, ↓Zf, ↓Zc, ↓Zb, ↓vdn, vup, Zl, Zh, Zm, Zo, Zn, List.map_cons, List.map_nil, cond_true, cond_false, aop, Zv, Zq, Zp, ev, sput, Zt, Zz, Yb, unK, Zd, Zw, Nat.reduceBEq, Nat.reduceAdd, Int.reduceBEq, Int.reduceBNe, Int.reduceLT, Zu, Ya, tup, tyf, hl, fA0, fA1, Ws (Yl h _), Xx (Yl h _), ge_iff_le, h1, decide_false, Bool.true_and, Bool.false_and]
      exact hE
end Go.Proofs.Try.Am

namespace Go.Proofs.Try.Am
open Go.Am
set_option maxRecDepth 100000
/-! 116: slices.IndexFunc[[]planchet api.Frac,planchet api.Frac] -/
@[reducible] def q116_0 : SCode := .region [⟨some 4, .assign (.const (.int .i64 0)), none⟩]
@[reducible] def q116_1 : SCode := .region [⟨some 6, .move (.tmp 0), none⟩,
    ⟨some 7, .call { callee := .builtin .len, args := #[.tmp 6], argTypes := #[47] }, none⟩,
    ⟨some 8, .move (.const (.int .i64 0)), none⟩]
@[reducible] def q116_2 : SCode := .region [⟨some 9, .binOp .lss 3 (.tmp 8) (.tmp 7) 3, none⟩]
@[reducible] def q116_3 : SCode := .region [⟨some 10, .move (.tmp 8), none⟩,
    ⟨some 5, .assign (.tmp 10), none⟩]
@[reducible] def q116_4 : SCode := .region [⟨some 11, .move (.tmp 1), none⟩,
    ⟨some 12, .move (.tmp 0), none⟩,
    ⟨some 13, .move (.tmp 5), none⟩,
    ⟨some 14, .indexAddr 47 (.tmp 12) (.tmp 13), none⟩,
    ⟨some 15, .load 26 (.tmp 14), none⟩,
    ⟨some 16, .call { callee := .value (.tmp 11), args := #[.tmp 15], argTypes := #[26] }, none⟩]
@[reducible] def q116_5 : SCode := .region [⟨some 17, .move (.tmp 5), none⟩,
    ⟨some 4, .assign (.tmp 17), none⟩]
@[reducible] def q116_6 : SCode := .region [⟨some 18, .binOp .add 3 (.tmp 8) (.const (.int .i64 1)) 3, none⟩,
    ⟨some 8, .move (.tmp 18), none⟩]
def l116_0 : SCode := (.seq q116_2 (.seq (.cond (.tmp 9) .skip (.exit 0)) (.seq (.block 1 (.seq q116_3 (.seq q116_4 (.cond (.tmp 16) (.seq q116_5 .ret) .skip)))) q116_6)))
@[reducible] def q116_7 : SCode := .region [⟨some 4, .assign (.const (.int .i64 (-1))), none⟩]
def s116 : SCode := (.seq q116_0 (.seq (.seq q116_1 (.block 0 (.loop l116_0))) (.seq q116_7 .ret)))
theorem s116_strip : Yk (Yi Try.f116) = s116 := by kernel_rfl
theorem s116_ok : Yp 19 (Yi Try.f116) = true := by kernel_rfl
/-! 34: planchet planchetref09.Multiple -/
@[reducible] def q34_0 : SCode := .region [⟨some 2, .assign (.const (.int .i64 0)), none⟩]
@[reducible] def q34_1 : SCode := .region [⟨some 3, .assign (.const (.int .i64 1)), none⟩]
@[reducible] def q34_2 : SCode := .region [⟨some 8, .move (.tmp 0), none⟩,
    ⟨some 9, .call { callee := .builtin .len, args := #[.tmp 8], argTypes := #[47] }, none⟩,
    ⟨some 10, .move (.const (.int .i64 0)), none⟩]
@[reducible] def q34_3 : SCode := .region [⟨some 11, .binOp .lss 3 (.tmp 10) (.tmp 9) 3, none⟩]
@[reducible] def q34_4 : SCode := .region [⟨some 12, .indexAddr 47 (.tmp 8) (.tmp 10), none⟩,
    ⟨some 13, .load 26 (.tmp 12), none⟩,
    ⟨some 5, .alloc 26, none⟩,
    ⟨none, .store 26 (.tmp 5) (.tmp 13), none⟩]
def q34_5 : SCode := .draw [⟨some 14, .fieldAddr 26 (.tmp 5) 1, none⟩,
    ⟨some 15, .load 3 (.tmp 14), none⟩,
    ⟨some 16, .binOp .lss 3 (.tmp 15) (.const (.int .i64 1)) 3, none⟩,
    ⟨some 17, .move (.tmp 16), none⟩,
    ⟨some 18, .fieldAddr 26 (.tmp 5) 1, some (17, false)⟩,
    ⟨some 19, .load 3 (.tmp 18), some (17, false)⟩,
    ⟨some 20, .binOp .gtr 3 (.tmp 19) (.const (.int .i64 10000000000)) 3, some (17, false)⟩,
    ⟨some 21, .pick (.tmp 17) (.const (.bool true)) (.tmp 20), none⟩,
    ⟨some 22, .move (.tmp 21), none⟩,
    ⟨some 23, .fieldAddr 26 (.tmp 5) 0, some (22, false)⟩,
    ⟨some 24, .load 3 (.tmp 23), some (22, false)⟩,
    ⟨some 25, .binOp .lss 3 (.tmp 24) (.const (.int .i64 0)) 3, some (22, false)⟩,
    ⟨some 26, .pick (.tmp 22) (.const (.bool true)) (.tmp 25), none⟩,
    ⟨some 27, .move (.tmp 26), none⟩,
    ⟨some 28, .fieldAddr 26 (.tmp 5) 0, some (27, false)⟩,
    ⟨some 29, .load 3 (.tmp 28), some (27, false)⟩,
    ⟨some 30, .fieldAddr 26 (.tmp 5) 1, some (27, false)⟩,
    ⟨some 31, .load 3 (.tmp 30), some (27, false)⟩,
    ⟨some 32, .call { callee := .value (.func 68), args := #[.tmp 29, .tmp 31], argTypes := #[3, 3] }, some (27, false)⟩,
    ⟨some 33, .load 26 (.tmp 5), some (27, false)⟩,
    ⟨some 34, .binOp .neq 26 (.tmp 32) (.tmp 33) 26, some (27, false)⟩,
    ⟨some 35, .pick (.tmp 27) (.const (.bool true)) (.tmp 34), none⟩]
   [[], [0], [1], [2], [3], [4, 3], [5, 3], [3, 6], [7, 3], [8], [9, 8], [10, 8], [8, 11], [12, 8], [13], [14, 13], [13], [16, 13], [15, 17, 13, 13], [13], [18, 19, 13], [13, 20]]
@[reducible] def q34_6 : SCode := .region [⟨some 2, .assign (.const (.int .i64 0)), none⟩]
def q34_7 : SCode := .draw [⟨some 36, .move (.tmp 3), none⟩,
    ⟨some 37, .fieldAddr 26 (.tmp 5) 1, none⟩,
    ⟨some 38, .load 3 (.tmp 37), none⟩,
    ⟨some 6, .assign (.tmp 36), none⟩,
    ⟨some 7, .assign (.tmp 38), none⟩]
   [[], [], [1], [0, 0], [2, 3, 0, 1, 2, 3]]
@[reducible] def q34_8 : SCode := .region [⟨some 39, .move (.tmp 7), none⟩,
    ⟨some 40, .binOp .neq 3 (.tmp 39) (.const (.int .i64 0)) 3, none⟩]
def q34_9 : SCode := .draw [⟨some 41, .move (.tmp 7), none⟩,
    ⟨some 42, .move (.tmp 6), none⟩,
    ⟨some 43, .move (.tmp 7), none⟩,
    ⟨some 44, .binOp .rem 3 (.tmp 42) (.tmp 43) 3, none⟩,
    ⟨some 6, .assign (.tmp 41), none⟩,
    ⟨some 7, .assign (.tmp 44), none⟩]
   [[], [], [], [1, 2], [0, 0, 1], [3, 4, 0, 1, 2, 3, 4]]
def l34_0 : SCode := (.seq (.seq q34_8 (.cond (.tmp 40) .skip (.exit 2))) (.block 3 q34_9))
def q34_10 : SCode := .draw [⟨some 45, .move (.tmp 3), none⟩,
    ⟨some 46, .move (.tmp 6), none⟩,
    ⟨some 47, .binOp .quo 3 (.tmp 45) (.tmp 46) 3, none⟩,
    ⟨some 48, .fieldAddr 26 (.tmp 5) 1, none⟩,
    ⟨some 49, .load 3 (.tmp 48), none⟩,
    ⟨some 50, .binOp .quo 3 (.const (.int .i64 10000000000)) (.tmp 49) 3, none⟩,
    ⟨some 51, .binOp .gtr 3 (.tmp 47) (.tmp 50) 3, none⟩]
   [[], [], [0, 1], [], [3], [4], [2, 5]]
@[reducible] def q34_11 : SCode := .region [⟨some 2, .assign (.const (.int .i64 0)), none⟩]
def q34_12 : SCode := .draw [⟨some 52, .move (.tmp 3), none⟩,
    ⟨some 53, .move (.tmp 6), none⟩,
    ⟨some 54, .binOp .quo 3 (.tmp 52) (.tmp 53) 3, none⟩,
    ⟨some 55, .fieldAddr 26 (.tmp 5) 1, none⟩,
    ⟨some 56, .load 3 (.tmp 55), none⟩,
    ⟨some 57, .binOp .mul 3 (.tmp 54) (.tmp 56) 3, none⟩,
    ⟨some 3, .assign (.tmp 57), none⟩]
   [[], [], [0, 1], [], [3], [2, 4], [5, 0, 1, 2, 3, 4, 5]]
@[reducible] def q34_13 : SCode := .region [⟨some 58, .binOp .add 3 (.tmp 10) (.const (.int .i64 1)) 3, none⟩,
    ⟨some 10, .move (.tmp 58), none⟩]
def l34_1 : SCode := (.seq q34_3 (.seq (.cond (.tmp 11) .skip (.exit 0)) (.seq (.block 1 (.seq q34_4 (.seq (.seq q34_5 (.cond (.tmp 35) (.seq q34_6 .ret) .skip)) (.seq q34_7 (.seq (.block 2 (.loop l34_0)) (.seq (.seq q34_10 (.cond (.tmp 51) (.seq q34_11 .ret) .skip)) q34_12)))))) q34_13)))
@[reducible] def q34_14 : SCode := .region [⟨some 59, .move (.tmp 3), none⟩,
    ⟨some 2, .assign (.tmp 59), none⟩]
def s34 : SCode := (.seq q34_0 (.seq q34_1 (.seq (.seq q34_2 (.block 0 (.loop l34_1))) (.seq q34_14 .ret))))
theorem s34_strip : Yk (Yi Try.f34) = s34 := by kernel_rfl
theorem s34_ok : Yp 60 (Yi Try.f34) = true := by kernel_rfl
/-! 38: planchet planchetref09.Chances -/
@[reducible] def q38_0 : SCode := .region [⟨some 4, .assign (.const (.bool false)), none⟩]
@[reducible] def q38_1 : SCode := .region [⟨some 7, .move (.tmp 1), none⟩,
    ⟨some 8, .call { callee := .builtin .len, args := #[.tmp 7], argTypes := #[47] }, none⟩,
    ⟨some 9, .move (.tmp 0), none⟩,
    ⟨some 10, .binOp .neq 3 (.tmp 8) (.tmp 9) 3, none⟩,
    ⟨some 11, .move (.tmp 10), none⟩,
    ⟨some 12, .move (.tmp 1), some (11, false)⟩,
    ⟨some 13, .call { callee := .value (.func 34), args := #[.tmp 12], argTypes := #[47] }, some (11, false)⟩,
    ⟨some 14, .binOp .eql 3 (.tmp 13) (.const (.int .i64 0)) 3, some (11, false)⟩,
    ⟨some 15, .pick (.tmp 11) (.const (.bool true)) (.tmp 14), none⟩]
@[reducible] def q38_2 : SCode := .region [⟨some 4, .assign (.const (.bool false)), none⟩]
@[reducible] def q38_3 : SCode := .region [⟨some 16, .move (.tmp 1), none⟩,
    ⟨some 17, .call { callee := .builtin .len, args := #[.tmp 16], argTypes := #[47] }, none⟩,
    ⟨some 18, .move (.const (.int .i64 0)), none⟩]
@[reducible] def q38_4 : SCode := .region [⟨some 19, .binOp .lss 3 (.tmp 18) (.tmp 17) 3, none⟩]
@[reducible] def q38_5 : SCode := .region [⟨some 20, .indexAddr 47 (.tmp 16) (.tmp 18), none⟩,
    ⟨some 21, .load 26 (.tmp 20), none⟩,
    ⟨some 6, .alloc 26, none⟩,
    ⟨none, .store 26 (.tmp 6) (.tmp 21), none⟩]
@[reducible] def q38_6 : SCode := .region [⟨some 22, .fieldAddr 26 (.tmp 6) 0, none⟩,
    ⟨some 23, .load 3 (.tmp 22), none⟩,
    ⟨some 24, .fieldAddr 26 (.tmp 6) 1, none⟩,
    ⟨some 25, .load 3 (.tmp 24), none⟩,
    ⟨some 26, .binOp .gtr 3 (.tmp 23) (.tmp 25) 3, none⟩]
@[reducible] def q38_7 : SCode := .region [⟨some 4, .assign (.const (.bool false)), none⟩]
@[reducible] def q38_8 : SCode := .region [⟨some 27, .binOp .add 3 (.tmp 18) (.const (.int .i64 1)) 3, none⟩,
    ⟨some 18, .move (.tmp 27), none⟩]
def l38_0 : SCode := (.seq q38_4 (.seq (.cond (.tmp 19) .skip (.exit 0)) (.seq (.block 1 (.seq q38_5 (.seq q38_6 (.cond (.tmp 26) (.seq q38_7 .ret) .skip)))) q38_8)))
@[reducible] def q38_9 : SCode := .region [⟨some 4, .assign (.const (.bool true)), none⟩]
def s38 : SCode := (.seq q38_0 (.seq (.seq q38_1 (.cond (.tmp 15) (.seq q38_2 .ret) .skip)) (.seq (.seq q38_3 (.block 0 (.loop l38_0))) (.seq q38_9 .ret))))
theorem s38_strip : Yk (Yi Try.f38) = s38 := by kernel_rfl
theorem s38_ok : Yp 28 (Yi Try.f38) = true := by kernel_rfl
/-! 74: planchet planchetref09.part -/
@[reducible] def q74_0 : SCode := .region [⟨some 4, .assign (.const (.int .i64 0)), none⟩]
@[reducible] def q74_1 : SCode := .region [⟨some 9, .move (.tmp 0), none⟩,
    ⟨some 10, .call { callee := .value (.func 34), args := #[.tmp 9], argTypes := #[47] }, none⟩,
    ⟨some 5, .assign (.tmp 10), none⟩,
    ⟨some 6, .assign (.const (.int .i64 0)), none⟩]
@[reducible] def q74_2 : SCode := .region [⟨some 11, .move (.tmp 0), none⟩,
    ⟨some 12, .call { callee := .builtin .len, args := #[.tmp 11], argTypes := #[47] }, none⟩,
    ⟨some 13, .move (.const (.int .i64 0)), none⟩]
@[reducible] def q74_3 : SCode := .region [⟨some 14, .binOp .lss 3 (.tmp 13) (.tmp 12) 3, none⟩]
@[reducible] def q74_4 : SCode := .region [⟨some 15, .move (.tmp 13), none⟩,
    ⟨some 16, .indexAddr 47 (.tmp 11) (.tmp 13), none⟩,
    ⟨some 17, .load 26 (.tmp 16), none⟩,
    ⟨some 8, .alloc 26, none⟩,
    ⟨some 7, .assign (.tmp 15), none⟩,
    ⟨none, .store 26 (.tmp 8) (.tmp 17), none⟩]
@[reducible] def q74_5 : SCode := .region [⟨some 18, .move (.tmp 1), none⟩,
    ⟨some 19, .move (.tmp 7), none⟩,
    ⟨some 20, .binOp .shr 3 (.tmp 18) (.tmp 19) 3, none⟩,
    ⟨some 21, .binOp .and 3 (.tmp 20) (.const (.int .i64 1)) 3, none⟩,
    ⟨some 22, .binOp .eql 3 (.tmp 21) (.const (.int .i64 1)) 3, none⟩]
def q74_6 : SCode := .draw [⟨some 23, .move (.tmp 6), none⟩,
    ⟨some 24, .move (.tmp 5), none⟩,
    ⟨some 25, .fieldAddr 26 (.tmp 8) 1, none⟩,
    ⟨some 26, .load 3 (.tmp 25), none⟩,
    ⟨some 27, .binOp .quo 3 (.tmp 24) (.tmp 26) 3, none⟩,
    ⟨some 28, .fieldAddr 26 (.tmp 8) 0, none⟩,
    ⟨some 29, .load 3 (.tmp 28), none⟩,
    ⟨some 30, .binOp .mul 3 (.tmp 27) (.tmp 29) 3, none⟩,
    ⟨some 31, .binOp .add 3 (.tmp 23) (.tmp 30) 3, none⟩,
    ⟨some 6, .assign (.tmp 31), none⟩]
   [[], [], [], [2], [1, 3], [], [5], [4, 6], [0, 7], [8, 0, 1, 2, 3, 4, 5, 6, 7, 8]]
@[reducible] def q74_7 : SCode := .region [⟨some 32, .binOp .add 3 (.tmp 13) (.const (.int .i64 1)) 3, none⟩,
    ⟨some 13, .move (.tmp 32), none⟩]
def l74_0 : SCode := (.seq q74_3 (.seq (.cond (.tmp 14) .skip (.exit 0)) (.seq (.block 1 (.seq q74_4 (.seq q74_5 (.cond (.tmp 22) q74_6 .skip)))) q74_7)))
@[reducible] def q74_8 : SCode := .region [⟨some 33, .move (.tmp 6), none⟩,
    ⟨some 4, .assign (.tmp 33), none⟩]
def s74 : SCode := (.seq q74_0 (.seq q74_1 (.seq (.seq q74_2 (.block 0 (.loop l74_0))) (.seq q74_8 .ret))))
theorem s74_strip : Yk (Yi Try.f74) = s74 := by kernel_rfl
theorem s74_ok : Yp 34 (Yi Try.f74) = true := by kernel_rfl
end Go.Proofs.Try.Am

namespace Go.Proofs.Try.Am
open Go.Am Bq
set_option maxRecDepth 100000
set_option maxHeartbeats 1000000

/-- Fractions within the range of ints. -/
def InR (ps : List (Int × Int)) : Prop := ∀ p ∈ ps, (-(2 ^ 63) ≤ p.1 ∧ p.1 < 2 ^ 63) ∧ -(2 ^ 63) ≤ p.2 ∧ p.2 < 2 ^ 63
theorem drop_getD {ps : List (Int × Int)} {k : Nat} (hk : k < ps.length) : ps.drop k = ps.getD k (0, 0) :: ps.drop (k + 1) := by
  rw [List.getD, List.getElem?_eq_getElem hk]; exact List.drop_eq_getElem_cons hk
theorem mulTo_no {p : Int × Int} {ps : List (Int × Int)} {m : Nat} (h : okP p = false) : mulTo (p :: ps) m = 0 := by rw [mulTo, h]; simp
theorem neq_frac {x y : Int} (h1 : 1 ≤ y) : (([(Rat.divInt x y).num, ((Rat.divInt x y).den : Int)] : List Int) != [x, y]) = !(Nat.gcd x.natAbs y.natAbs == 1) := by
  obtain ⟨n, rfl⟩ : ∃ n : Nat, y = n := ⟨y.toNat, by omega⟩
  have hn : 0 < n := by omega
  obtain ⟨t1, t2⟩ := terms (x := x) hn
  rw [bne, Int.natAbs_natCast]
  congr 1
  rw [Bool.eq_iff_iff, beq_iff_eq, beq_iff_eq, List.cons.injEq, List.cons.injEq]
  constructor
  · rintro ⟨_, h3, _⟩
    have h4 : n / Nat.gcd x.natAbs n = n := by rw [← t2] at h3; omega
    rcases Nat.lt_or_ge 1 (Nat.gcd x.natAbs n) with h5 | h5
    · have := Nat.div_lt_self hn h5; omega
    · have := Nat.gcd_pos_of_pos_right x.natAbs hn; omega
  · intro h3
    rw [← t1, ← t2, h3]; simp

/-- Whether what is common is too great. -/
theorem lcm_gt {m n : Nat} (hm : 0 < m) (hn : 0 < n) : (10000000000 / n < m / Nat.gcd m n) ↔ 10000000000 < Nat.lcm m n := by
  have e : Nat.lcm m n = m / Nat.gcd m n * n := by rw [Nat.lcm, Nat.div_mul_right_comm (Nat.gcd_dvd_left _ _)]
  rw [e]; exact Nat.div_lt_iff_lt_mul hn
theorem lcm_gt' {m n : Nat} (hm : 0 < m) (hn : 0 < n) : (10000000000 / (n / Nat.gcd m n) < m) ↔ 10000000000 < Nat.lcm m n := by
  have hg := Nat.gcd_pos_of_pos_left n hm
  have e : Nat.lcm m n = m * (n / Nat.gcd m n) := by rw [Nat.lcm, Nat.mul_div_assoc _ (Nat.gcd_dvd_right _ _)]
  rw [e]; exact Nat.div_lt_iff_lt_mul (Nat.div_pos (Nat.le_of_dvd hn (Nat.gcd_dvd_right _ _)) hg)

theorem s34_callW [Tabs Try.prog] {args : List Value} {h : Yc} {Q : Value → Yc → Prop} (hsz : args.length ≤ 60) (hk : AWS Try.prog 60 s34 (Zu Try.prog [.tmp 2] Q) (Zp 0 args) h) : ACall Try.prog 34 args h Q :=
  Yv Try.func34 rfl (enters_of Try.func34 (by kernel_rfl) rfl) rfl rfl (by decide) s34_strip s34_ok hsz hk
theorem mult_call [Tabs prog] {h : Yc} {v : Value} {ps : List (Int × Int)} (hv : PairSl h v ps) (hl : ps.length < 9223372036854775808) (hx : InR ps) : Xi prog 34 [v] h (Zx (Xt ps : Nat)) := by
  refine ACall.forget (Low.int _ _) ?_
  refine s34_callW (by simp) ?_
  simp only [s34]
  refine Zy fun N1 hN1 => ?_
  simp (maxSteps := 2000000) only [s34, ↓Za, ↓Zk, ↓Zr, ↓Ze, ↓Zj, ↓Zs, ↓Zg, ↓Zi, ↓Zf, ↓Zc, ↓Zb, ↓vdn, vup, Zl, Zh, Zm, Zo, Zn, List.map_cons, List.map_nil, cond_true, cond_false, aop, Zv, Zq, Zp, ev, sput, Zt, Zz, Yb, unK, Zd, Zw, Nat.reduceBEq, Nat.reduceAdd, Int.reduceBEq, Int.reduceBNe, Int.reduceLT, Zu, Ya, tup, tyf]
  refine hN1 [(0, v), (2, .int .i64 0)] _ _ ?_ (by simp (maxSteps := 2000000) only [↓Za, ↓Zk, ↓Zr, ↓Ze, ↓Zj, ↓Zs, ↓Zg, ↓Zi, ↓Zf, ↓Zc, ↓Zb, ↓vdn, vup, Zl, Zh, Zm, Zo, Zn, List.map_cons, List.map_nil, cond_true, cond_false, aop, Zv, Zq, Zp, ev, sput, Zt, Zz, Yb, unK, Zd, Zw, Nat.reduceBEq, Nat.reduceAdd, Int.reduceBEq, Int.reduceBNe, Int.reduceLT, Zu, Ya, tup, tyf])
  clear hN1
  try clear N1
  refine Zy fun N2 hN2 => ?_
  simp (maxSteps := 2000000) only [s34, ↓Za, ↓Zk, ↓Zr, ↓Ze, ↓Zj, ↓Zs, ↓Zg, ↓Zi, ↓Zf, ↓Zc, ↓Zb, ↓vdn, vup, Zl, Zh, Zm, Zo, Zn, List.map_cons, List.map_nil, cond_true, cond_false, aop, Zv, Zq, Zp, ev, sput, Zt, Zz, Yb, unK, Zd, Zw, Nat.reduceBEq, Nat.reduceAdd, Int.reduceBEq, Int.reduceBNe, Int.reduceLT, Zu, Ya, tup, tyf]
  refine hN2 [(0, v), (2, .int .i64 0), (3, .int .i64 1)] _ _ ?_ (by simp (maxSteps := 2000000) only [↓Za, ↓Zk, ↓Zr, ↓Ze, ↓Zj, ↓Zs, ↓Zg, ↓Zi, ↓Zf, ↓Zc, ↓Zb, ↓vdn, vup, Zl, Zh, Zm, Zo, Zn, List.map_cons, List.map_nil, cond_true, cond_false, aop, Zv, Zq, Zp, ev, sput, Zt, Zz, Yb, unK, Zd, Zw, Nat.reduceBEq, Nat.reduceAdd, Int.reduceBEq, Int.reduceBNe, Int.reduceLT, Zu, Ya, tup, tyf])
  clear hN2
  try clear N2
  refine Ye fun M hM => ?_
  refine Zy fun N3 hN3 => ?_
  simp (maxSteps := 2000000) only [s34, ↓Za, ↓Zk, ↓Zr, ↓Ze, ↓Zj, ↓Zs, ↓Zg, ↓Zi, ↓Zf, ↓Zc, ↓Zb, ↓vdn, vup, Zl, Zh, Zm, Zo, Zn, List.map_cons, List.map_nil, cond_true, cond_false, aop, Zv, Zq, Zp, ev, sput, Zt, Zz, Yb, unK, Zd, Zw, Nat.reduceBEq, Nat.reduceAdd, Int.reduceBEq, Int.reduceBNe, Int.reduceLT, Zu, Ya, tup, tyf, hv.len]
  refine hN3 [(0, v), (2, .int .i64 0), (3, .int .i64 1), (8, v), (9, Zx ps.length), (10, .int .i64 0)] _ _ ?_ (by simp (maxSteps := 2000000) only [↓Za, ↓Zk, ↓Zr, ↓Ze, ↓Zj, ↓Zs, ↓Zg, ↓Zi, ↓Zf, ↓Zc, ↓Zb, ↓vdn, vup, Zl, Zh, Zm, Zo, Zn, List.map_cons, List.map_nil, cond_true, cond_false, aop, Zv, Zq, Zp, ev, sput, Zt, Zz, Yb, unK, Zd, Zw, Nat.reduceBEq, Nat.reduceAdd, Int.reduceBEq, Int.reduceBNe, Int.reduceLT, Zu, Ya, tup, tyf])
  clear hN3
  try clear N3
  refine Yf ?_
  refine Yh fun Q hQ => ?_
  refine Yz (γ := Nat × Nat × Yc) (fun s => s.1 ≤ ps.length ∧ 0 < s.2.1 ∧ s.2.1 ≤ 10000000000 ∧ mulTo (ps.drop s.1) s.2.1 = Xt ps ∧ Ext (fun _ => False) h s.2.2)
    (fun s => ([(0, v), (2, .int .i64 0), (3, Zx (s.2.1 : Nat)), (8, v), (9, Zx ps.length), (10, Zx (s.1 : Nat))], s.2.2)) (fun s => ps.length - s.1) (0, 1, h) ⟨Nat.zero_le _, Nat.one_pos, (by decide : (1 : Nat) ≤ 10000000000), rfl, Ext.refl _ _⟩ (by simp (maxSteps := 2000000) only [↓Za, ↓Zk, ↓Zr, ↓Ze, ↓Zj, ↓Zs, ↓Zg, ↓Zi, ↓Zf, ↓Zc, ↓Zb, ↓vdn, vup, Zl, Zh, Zm, Zo, Zn, List.map_cons, List.map_nil, cond_true, cond_false, aop, Zv, Zq, Zp, ev, sput, Zt, Zz, Yb, unK, Zd, Zw, Nat.reduceBEq, Nat.reduceAdd, Int.reduceBEq, Int.reduceBNe, Int.reduceLT, Zu, Ya, tup, tyf, Int.natCast_zero, Int.natCast_one]) rfl ?_
  rintro ⟨k, m, hp⟩ ⟨hk, hm0, hm, hmul, hE⟩
  simp only at hk hm0 hm hmul hE
  refine Yh fun Q2 hQ2 => ?_
  simp only [l34_1]
  by_cases hin : (k : Int) < ps.length
  · have hk' : k < ps.length := by omega
    have hvp := hv.ext hE
    obtain ⟨⟨x, y⟩, hxy⟩ : ∃ p, ps.getD k (0, 0) = p := ⟨_, rfl⟩
    have hmem : (x, y) ∈ ps := hxy ▸ Wa hk'
    have hr := hx _ hmem
    simp only at hr
    have hdr := drop_getD hk'
    rw [hxy] at hdr
    rw [hdr] at hmul
    refine Zy fun N4 hN4 => ?_
    simp (maxSteps := 2000000) only [s34, ↓Za, ↓Zk, ↓Zr, ↓Ze, ↓Zj, ↓Zs, ↓Zg, ↓Zi, ↓Zf, ↓Zc, ↓Zb, ↓vdn, vup, Zl, Zh, Zm, Zo, Zn, List.map_cons, List.map_nil, cond_true, cond_false, aop, Zv, Zq, Zp, ev, sput, Zt, Zz, Yb, unK, Zd, Zw, Nat.reduceBEq, Nat.reduceAdd, Int.reduceBEq, Int.reduceBNe, Int.reduceLT, Zu, Ya, tup, tyf, hin]
    refine hN4 [(0, v), (2, .int .i64 0), (3, Zx (m : Nat)), (8, v), (9, Zx ps.length), (10, Zx (k : Nat)), (11, .bool true)] _ _ ?_ (by simp (maxSteps := 2000000) only [↓Za, ↓Zk, ↓Zr, ↓Ze, ↓Zj, ↓Zs, ↓Zg, ↓Zi, ↓Zf, ↓Zc, ↓Zb, ↓vdn, vup, Zl, Zh, Zm, Zo, Zn, List.map_cons, List.map_nil, cond_true, cond_false, aop, Zv, Zq, Zp, ev, sput, Zt, Zz, Yb, unK, Zd, Zw, Nat.reduceBEq, Nat.reduceAdd, Int.reduceBEq, Int.reduceBNe, Int.reduceLT, Zu, Ya, tup, tyf])
    clear hN4
    try clear N4
    refine Zy fun N5 hN5 => ?_
    simp (maxSteps := 2000000) only [s34, ↓Za, ↓Zk, ↓Zr, ↓Ze, ↓Zj, ↓Zs, ↓Zg, ↓Zi, ↓Zf, ↓Zc, ↓Zb, ↓vdn, vup, Zl, Zh, Zm, Zo, Zn, List.map_cons, List.map_nil, cond_true, cond_false, aop, Zv, Zq, Zp, ev, sput, Zt, Zz, Yb, unK, Zd, Zw, Nat.reduceBEq, Nat.reduceAdd, Int.reduceBEq, Int.reduceBNe, Int.reduceLT, Zu, Ya, tup, tyf]
    refine hN5 [(0, v), (2, .int .i64 0), (3, Zx (m : Nat)), (8, v), (9, Zx ps.length), (10, Zx (k : Nat))] _ _ ?_ (by simp (maxSteps := 2000000) only [↓Za, ↓Zk, ↓Zr, ↓Ze, ↓Zj, ↓Zs, ↓Zg, ↓Zi, ↓Zf, ↓Zc, ↓Zb, ↓vdn, vup, Zl, Zh, Zm, Zo, Zn, List.map_cons, List.map_nil, cond_true, cond_false, aop, Zv, Zq, Zp, ev, sput, Zt, Zz, Yb, unK, Zd, Zw, Nat.reduceBEq, Nat.reduceAdd, Int.reduceBEq, Int.reduceBNe, Int.reduceLT, Zu, Ya, tup, tyf])
    clear hN5
    try clear N5
    obtain ⟨H, hH⟩ : ∃ H, H = hp ++ [fC x y] := ⟨_, rfl⟩
    have c5 : H[hp.length]? = some (fC x y) := by rw [hH]; exact Yl _ _
    have hEH : Ext (fun _ => False) h H := by rw [hH]; exact hE.trans (Ext.app _ _ _)
    refine Ye fun B hB => ?_
    refine Yf ?_
    refine Zy fun N6 hN6 => ?_
    simp (maxSteps := 2000000) only [s34, ↓Za, ↓Zk, ↓Zr, ↓Ze, ↓Zj, ↓Zs, ↓Zg, ↓Zi, ↓Zf, ↓Zc, ↓Zb, ↓vdn, vup, Zl, Zh, Zm, Zo, Zn, List.map_cons, List.map_nil, cond_true, cond_false, aop, Zv, Zq, Zp, ev, sput, Zt, Zz, Yb, unK, Zd, Zw, Nat.reduceBEq, Nat.reduceAdd, Int.reduceBEq, Int.reduceBNe, Int.reduceLT, Zu, Ya, tup, tyf, hvp.idx el_47 Wh hk', hvp.load Vh hk', hxy, Xq, Xb, Xp, Wi (Yl hp z0) rfl, Wj]
    rw [← hH]
    refine hN6 [(0, v), (2, .int .i64 0), (3, Zx (m : Nat)), (5, .pointer (some ⟨hp.length, 0, none⟩)), (8, v), (9, Zx ps.length), (10, Zx (k : Nat))] _ _ ?_ (by simp (maxSteps := 2000000) only [↓Za, ↓Zk, ↓Zr, ↓Ze, ↓Zj, ↓Zs, ↓Zg, ↓Zi, ↓Zf, ↓Zc, ↓Zb, ↓vdn, vup, Zl, Zh, Zm, Zo, Zn, List.map_cons, List.map_nil, cond_true, cond_false, aop, Zv, Zq, Zp, ev, sput, Zt, Zz, Yb, unK, Zd, Zw, Nat.reduceBEq, Nat.reduceAdd, Int.reduceBEq, Int.reduceBNe, Int.reduceLT, Zu, Ya, tup, tyf])
    clear hN6
    try clear N6
    have none0 : Xt ps = 0 → ∀ e, sget e 2 = .int .i64 0 → Q2 .ret e H := by
      intro h0 e he
      refine hQ2 _ _ _ (hQ _ _ _ ?_)
      simp (maxSteps := 2000000) only [s34, ↓Za, ↓Zk, ↓Zr, ↓Ze, ↓Zj, ↓Zs, ↓Zg, ↓Zi, ↓Zf, ↓Zc, ↓Zb, ↓vdn, vup, Zl, Zh, Zm, Zo, Zn, List.map_cons, List.map_nil, cond_true, cond_false, aop, Zv, Zq, Zp, ev, sput, Zt, Zz, Yb, unK, Zd, Zw, Nat.reduceBEq, Nat.reduceAdd, Int.reduceBEq, Int.reduceBNe, Int.reduceLT, Zu, Ya, tup, tyf, he, h0, Int.natCast_zero]
      exact hEH
    refine Zy fun C hC => ?_
    simp only [q34_5]
    refine aw_cut fun D hD => ?_
    refine Xg [(18, 1)] (by kernel_rfl) (by kernel_rfl) (by kernel_rfl) (by kernel_rfl) ?_
    have bad : okP (x, y) = false → ∀ e, sget e 35 = .bool true → D e H := by
      intro hok e he
      have h0 : Xt ps = 0 := by rw [← hmul, mulTo_no hok]
      refine hD _ _ ?_
      simp (maxSteps := 2000000) only [s34, ↓Za, ↓Zk, ↓Zr, ↓Ze, ↓Zj, ↓Zs, ↓Zg, ↓Zi, ↓Zf, ↓Zc, ↓Zb, ↓vdn, vup, Zl, Zh, Zm, Zo, Zn, List.map_cons, List.map_nil, cond_true, cond_false, aop, Zv, Zq, Zp, ev, sput, Zt, Zz, Yb, unK, Zd, Zw, Nat.reduceBEq, Nat.reduceAdd, Int.reduceBEq, Int.reduceBNe, Int.reduceLT, Zu, Ya, tup, tyf, he]
      exact none0 h0 _ (by simp [sget_sput])
    by_cases h1 : y < 1
    · simp (maxSteps := 2000000) only [s34, ↓Za, ↓Zk, ↓Zr, ↓Ze, ↓Zj, ↓Zs, ↓Zg, ↓Zi, ↓Zf, ↓Zc, ↓Zb, ↓vdn, vup, Zl, Zh, Zm, Zo, Zn, List.map_cons, List.map_nil, cond_true, cond_false, aop, Zv, Zq, Zp, ev, sput, Zt, Zz, Yb, unK, Zd, Zw, Nat.reduceBEq, Nat.reduceAdd, Int.reduceBEq, Int.reduceBNe, Int.reduceLT, Zu, Ya, tup, tyf, fA1, Xx c5, h1]
      exact bad (by simp [okP]; omega) _ rfl
    by_cases h2 : y > 10000000000
    · simp (maxSteps := 2000000) only [s34, ↓Za, ↓Zk, ↓Zr, ↓Ze, ↓Zj, ↓Zs, ↓Zg, ↓Zi, ↓Zf, ↓Zc, ↓Zb, ↓vdn, vup, Zl, Zh, Zm, Zo, Zn, List.map_cons, List.map_nil, cond_true, cond_false, aop, Zv, Zq, Zp, ev, sput, Zt, Zz, Yb, unK, Zd, Zw, Nat.reduceBEq, Nat.reduceAdd, Int.reduceBEq, Int.reduceBNe, Int.reduceLT, Zu, Ya, tup, tyf, fA1, Xx c5, h1, h2]
      exact bad (by simp [okP]; omega) _ rfl
    by_cases h3 : x < 0
    · simp (maxSteps := 2000000) only [s34, ↓Za, ↓Zk, ↓Zr, ↓Ze, ↓Zj, ↓Zs, ↓Zg, ↓Zi, ↓Zf, ↓Zc, ↓Zb, ↓vdn, vup, Zl, Zh, Zm, Zo, Zn, List.map_cons, List.map_nil, cond_true, cond_false, aop, Zv, Zq, Zp, ev, sput, Zt, Zz, Yb, unK, Zd, Zw, Nat.reduceBEq, Nat.reduceAdd, Int.reduceBEq, Int.reduceBNe, Int.reduceLT, Zu, Ya, tup, tyf, fA1, fA0, Xx c5, Ws c5, h1, h2, h3]
      exact bad (by simp [okP]; omega) _ rfl
    have rf := rfrac_call (h := H) (a := x) (b := y) (by omega) (by omega) (by omega)
    simp (maxSteps := 2000000) only [s34, ↓Za, ↓Zk, ↓Zr, ↓Ze, ↓Zj, ↓Zs, ↓Zg, ↓Zi, ↓Zf, ↓Zc, ↓Zb, ↓vdn, vup, Zl, Zh, Zm, Zo, Zn, List.map_cons, List.map_nil, cond_true, cond_false, aop, Zv, Zq, Zp, ev, sput, Zt, Zz, Yb, unK, Zd, Zw, Nat.reduceBEq, Nat.reduceAdd, Int.reduceBEq, Int.reduceBNe, Int.reduceLT, Zu, Ya, tup, tyf, fA1, fA0, Xx c5, Ws c5, h1, h2, h3, Yx, List.nil_append, List.append_nil, List.toList_toArray, List.cons_append]
    refine ⟨_, _, rf, rfl, ?_⟩
    simp (maxSteps := 2000000) only [s34, ↓Za, ↓Zk, ↓Zr, ↓Ze, ↓Zj, ↓Zs, ↓Zg, ↓Zi, ↓Zf, ↓Zc, ↓Zb, ↓vdn, vup, Zl, Zh, Zm, Zo, Zn, List.map_cons, List.map_nil, cond_true, cond_false, aop, Zv, Zq, Zp, ev, sput, Zt, Zz, Yb, unK, Zd, Zw, Nat.reduceBEq, Nat.reduceAdd, Int.reduceBEq, Int.reduceBNe, Int.reduceLT, Zu, Ya, tup, tyf, qV, frV, loadF c5, Xh, Option.map_some, List.length_cons, List.length_nil, Nat.zero_add, eqF, neq_frac (show 1 ≤ y by omega)]
    cases hg : (Nat.gcd x.natAbs y.natAbs == 1) with
    | false => exact bad (by simp [okP, hg]) _ rfl
    | true =>
      refine hD _ _ ?_
      have hok : okP (x, y) = true := by simp [okP, hg]; omega
      obtain ⟨n, hn⟩ : ∃ n : Nat, y = n := ⟨y.toNat, by omega⟩
      subst hn
      have hn0 : 0 < n := by omega
      simp (maxSteps := 2000000) only [s34, ↓Za, ↓Zk, ↓Zr, ↓Ze, ↓Zj, ↓Zs, ↓Zg, ↓Zi, ↓Zf, ↓Zc, ↓Zb, ↓vdn, vup, Zl, Zh, Zm, Zo, Zn, List.map_cons, List.map_nil, cond_true, cond_false, aop, Zv, Zq, Zp, ev, sput, Zt, Zz, Yb, unK, Zd, Zw, Nat.reduceBEq, Nat.reduceAdd, Int.reduceBEq, Int.reduceBNe, Int.reduceLT, Zu, Ya, tup, tyf]
      refine hC [(0, v), (2, .int .i64 0), (3, Zx (m : Nat)), (5, .pointer (some ⟨hp.length, 0, none⟩)), (8, v), (9, Zx ps.length), (10, Zx (k : Nat))] _ _ ?_ (by simp (maxSteps := 2000000) only [↓Za, ↓Zk, ↓Zr, ↓Ze, ↓Zj, ↓Zs, ↓Zg, ↓Zi, ↓Zf, ↓Zc, ↓Zb, ↓vdn, vup, Zl, Zh, Zm, Zo, Zn, List.map_cons, List.map_nil, cond_true, cond_false, aop, Zv, Zq, Zp, ev, sput, Zt, Zz, Yb, unK, Zd, Zw, Nat.reduceBEq, Nat.reduceAdd, Int.reduceBEq, Int.reduceBNe, Int.reduceLT, Zu, Ya, tup, tyf])
      clear hC
      try clear C
      refine Zy fun N7 hN7 => ?_
      simp only [q34_7]
      refine Xg [] (by kernel_rfl) (by kernel_rfl) (by kernel_rfl) (by kernel_rfl) ?_
      simp (maxSteps := 2000000) only [s34, ↓Za, ↓Zk, ↓Zr, ↓Ze, ↓Zj, ↓Zs, ↓Zg, ↓Zi, ↓Zf, ↓Zc, ↓Zb, ↓vdn, vup, Zl, Zh, Zm, Zo, Zn, List.map_cons, List.map_nil, cond_true, cond_false, aop, Zv, Zq, Zp, ev, sput, Zt, Zz, Yb, unK, Zd, Zw, Nat.reduceBEq, Nat.reduceAdd, Int.reduceBEq, Int.reduceBNe, Int.reduceLT, Zu, Ya, tup, tyf, fA1, Xx c5]
      refine hN7 [(0, v), (2, .int .i64 0), (3, Zx (m : Nat)), (5, .pointer (some ⟨hp.length, 0, none⟩)), (6, Zx (m : Nat)), (7, Zx (n : Nat)), (8, v), (9, Zx ps.length), (10, Zx (k : Nat))] _ _ ?_ (by simp (maxSteps := 2000000) only [↓Za, ↓Zk, ↓Zr, ↓Ze, ↓Zj, ↓Zs, ↓Zg, ↓Zi, ↓Zf, ↓Zc, ↓Zb, ↓vdn, vup, Zl, Zh, Zm, Zo, Zn, List.map_cons, List.map_nil, cond_true, cond_false, aop, Zv, Zq, Zp, ev, sput, Zt, Zz, Yb, unK, Zd, Zw, Nat.reduceBEq, Nat.reduceAdd, Int.reduceBEq, Int.reduceBNe, Int.reduceLT, Zu, Ya, tup, tyf])
      clear hN7
      try clear N7
      refine Ye fun G hG => ?_
      refine Yf ?_
      refine Yh fun Q3 hQ3 => ?_
      refine Yz (γ := Nat × Nat) (fun s => Nat.gcd s.1 s.2 = Nat.gcd m n ∧ s.1 < 9223372036854775808 ∧ s.2 < 9223372036854775808)
        (fun s => ([(0, v), (2, .int .i64 0), (3, Zx (m : Nat)), (5, .pointer (some ⟨hp.length, 0, none⟩)), (6, Zx (s.1 : Nat)), (7, Zx (s.2 : Nat)), (8, v), (9, Zx ps.length), (10, Zx (k : Nat))], H)) (fun s => s.2) (m, n) ⟨rfl, by simp only; omega, by simp only; omega⟩ (by simp (maxSteps := 2000000) only [↓Za, ↓Zk, ↓Zr, ↓Ze, ↓Zj, ↓Zs, ↓Zg, ↓Zi, ↓Zf, ↓Zc, ↓Zb, ↓vdn, vup, Zl, Zh, Zm, Zo, Zn, List.map_cons, List.map_nil, cond_true, cond_false, aop, Zv, Zq, Zp, ev, sput, Zt, Zz, Yb, unK, Zd, Zw, Nat.reduceBEq, Nat.reduceAdd, Int.reduceBEq, Int.reduceBNe, Int.reduceLT, Zu, Ya, tup, tyf]) rfl ?_
      rintro ⟨u, w⟩ ⟨huw, hu, hw⟩
      simp only at huw hu hw
      refine Yh fun Q4 hQ4 => ?_
      simp only [l34_0]
      by_cases hw0 : w = 0
      · subst hw0
        have e0 : (((0 : Nat) : Int) != 0) = false := rfl
        rw [Nat.gcd_zero_right] at huw
        subst huw
        refine Zy fun N8 hN8 => ?_
        simp (maxSteps := 2000000) only [s34, ↓Za, ↓Zk, ↓Zr, ↓Ze, ↓Zj, ↓Zs, ↓Zg, ↓Zi, ↓Zf, ↓Zc, ↓Zb, ↓vdn, vup, Zl, Zh, Zm, Zo, Zn, List.map_cons, List.map_nil, cond_true, cond_false, aop, Zv, Zq, Zp, ev, sput, Zt, Zz, Yb, unK, Zd, Zw, Nat.reduceBEq, Nat.reduceAdd, Int.reduceBEq, Int.reduceBNe, Int.reduceLT, Zu, Ya, tup, tyf, e0]
        refine hQ4 _ _ _ (hQ3 _ _ _ ?_)
        simp (maxSteps := 2000000) only [s34, ↓Za, ↓Zk, ↓Zr, ↓Ze, ↓Zj, ↓Zs, ↓Zg, ↓Zi, ↓Zf, ↓Zc, ↓Zb, ↓vdn, vup, Zl, Zh, Zm, Zo, Zn, List.map_cons, List.map_nil, cond_true, cond_false, aop, Zv, Zq, Zp, ev, sput, Zt, Zz, Yb, unK, Zd, Zw, Nat.reduceBEq, Nat.reduceAdd, Int.reduceBEq, Int.reduceBNe, Int.reduceLT, Zu, Ya, tup, tyf, if_true]
        refine hG [(0, v), (2, .int .i64 0), (3, Zx (m : Nat)), (5, .pointer (some ⟨hp.length, 0, none⟩)), (6, Zx (Nat.gcd m n : Nat)), (8, v), (9, Zx ps.length), (10, Zx (k : Nat))] _ _ ?_ (by simp (maxSteps := 2000000) only [↓Za, ↓Zk, ↓Zr, ↓Ze, ↓Zj, ↓Zs, ↓Zg, ↓Zi, ↓Zf, ↓Zc, ↓Zb, ↓vdn, vup, Zl, Zh, Zm, Zo, Zn, List.map_cons, List.map_nil, cond_true, cond_false, aop, Zv, Zq, Zp, ev, sput, Zt, Zz, Yb, unK, Zd, Zw, Nat.reduceBEq, Nat.reduceAdd, Int.reduceBEq, Int.reduceBNe, Int.reduceLT, Zu, Ya, tup, tyf])
        clear hG
        try clear G
        have hgp := Nat.gcd_pos_of_pos_left n hm0
        have hg0 : ¬ ((Nat.gcd m n : Nat) : Int) = 0 := by omega
        have q1 := quoD (x := m) (show m < 9223372036854775808 by omega) (Nat.gcd_dvd_left m n)
        have q2 : quoV .i64 10000000000 ((n : Nat) : Int) = ((10000000000 / n : Nat) : Int) := by
          have h5 : (10000000000 : Int).tdiv ((n : Nat) : Int) = ((10000000000 / n : Nat) : Int) := by rw [Int.tdiv_eq_ediv_of_nonneg (by omega)]; rfl
          have h6 := Nat.div_le_self 10000000000 n
          rw [quoV, h5]
          generalize 10000000000 / n = z at h6 ⊢
          exact wrap_id (by omega) (by omega)
        have hn0' : ¬ ((n : Nat) : Int) = 0 := by omega
        have el : Nat.lcm m n = m / Nat.gcd m n * n := by rw [Nat.lcm, Nat.div_mul_right_comm (Nat.gcd_dvd_left _ _)]
        have hgt := lcm_gt hm0 hn0
        rw [mulTo] at hmul
        refine Zy fun K hK => ?_
        simp only [q34_10]
        refine aw_cut fun D hD => ?_
        refine Xg [] (by kernel_rfl) (by kernel_rfl) (by kernel_rfl) (by kernel_rfl) ?_
        by_cases hbig : 10000000000 < Nat.lcm m n
        · have hb2 : ((m / Nat.gcd m n : Nat) : Int) > ((10000000000 / n : Nat) : Int) := by have := hgt.2 hbig; omega
          rw [if_neg (by rw [Int.natAbs_natCast]; omega)] at hmul
          simp (maxSteps := 2000000) only [s34, ↓Za, ↓Zk, ↓Zr, ↓Ze, ↓Zj, ↓Zs, ↓Zg, ↓Zi, ↓Zf, ↓Zc, ↓Zb, ↓vdn, vup, Zl, Zh, Zm, Zo, Zn, List.map_cons, List.map_nil, cond_true, cond_false, aop, Zv, Zq, Zp, ev, sput, Zt, Zz, Yb, unK, Zd, Zw, Nat.reduceBEq, Nat.reduceAdd, Int.reduceBEq, Int.reduceBNe, Int.reduceLT, Zu, Ya, tup, tyf, fA1, Xx c5, ne_eq, hg0, hn0', not_false_eq_true, q1, q2, hb2]
          refine hD _ _ ?_
          simp (maxSteps := 2000000) only [s34, ↓Za, ↓Zk, ↓Zr, ↓Ze, ↓Zj, ↓Zs, ↓Zg, ↓Zi, ↓Zf, ↓Zc, ↓Zb, ↓vdn, vup, Zl, Zh, Zm, Zo, Zn, List.map_cons, List.map_nil, cond_true, cond_false, aop, Zv, Zq, Zp, ev, sput, Zt, Zz, Yb, unK, Zd, Zw, Nat.reduceBEq, Nat.reduceAdd, Int.reduceBEq, Int.reduceBNe, Int.reduceLT, Zu, Ya, tup, tyf]
          exact none0 hmul.symm _ rfl
        · have hb2 : ¬ ((m / Nat.gcd m n : Nat) : Int) > ((10000000000 / n : Nat) : Int) := by
            intro hc
            exact hbig (hgt.1 (by omega))
          rw [if_pos ⟨hok, by rw [Int.natAbs_natCast]; omega⟩, Int.natAbs_natCast] at hmul
          simp (maxSteps := 2000000) only [s34, ↓Za, ↓Zk, ↓Zr, ↓Ze, ↓Zj, ↓Zs, ↓Zg, ↓Zi, ↓Zf, ↓Zc, ↓Zb, ↓vdn, vup, Zl, Zh, Zm, Zo, Zn, List.map_cons, List.map_nil, cond_true, cond_false, aop, Zv, Zq, Zp, ev, sput, Zt, Zz, Yb, unK, Zd, Zw, Nat.reduceBEq, Nat.reduceAdd, Int.reduceBEq, Int.reduceBNe, Int.reduceLT, Zu, Ya, tup, tyf, fA1, Xx c5, ne_eq, hg0, hn0', not_false_eq_true, q1, q2, hb2]
          refine hD _ _ ?_
          simp (maxSteps := 2000000) only [s34, ↓Za, ↓Zk, ↓Zr, ↓Ze, ↓Zj, ↓Zs, ↓Zg, ↓Zi, ↓Zf, ↓Zc, ↓Zb, ↓vdn, vup, Zl, Zh, Zm, Zo, Zn, List.map_cons, List.map_nil, cond_true, cond_false, aop, Zv, Zq, Zp, ev, sput, Zt, Zz, Yb, unK, Zd, Zw, Nat.reduceBEq, Nat.reduceAdd, Int.reduceBEq, Int.reduceBNe, Int.reduceLT, Zu, Ya, tup, tyf]
          refine hK [(0, v), (2, .int .i64 0), (3, Zx (m : Nat)), (5, .pointer (some ⟨hp.length, 0, none⟩)), (6, Zx (Nat.gcd m n : Nat)), (8, v), (9, Zx ps.length), (10, Zx (k : Nat))] _ _ ?_ (by simp (maxSteps := 2000000) only [↓Za, ↓Zk, ↓Zr, ↓Ze, ↓Zj, ↓Zs, ↓Zg, ↓Zi, ↓Zf, ↓Zc, ↓Zb, ↓vdn, vup, Zl, Zh, Zm, Zo, Zn, List.map_cons, List.map_nil, cond_true, cond_false, aop, Zv, Zq, Zp, ev, sput, Zt, Zz, Yb, unK, Zd, Zw, Nat.reduceBEq, Nat.reduceAdd, Int.reduceBEq, Int.reduceBNe, Int.reduceLT, Zu, Ya, tup, tyf])
          clear hK
          try clear K
          have m1 : mulV .i64 ((m / Nat.gcd m n : Nat) : Int) (n : Int) = ((Nat.lcm m n : Nat) : Int) := by
            rw [mulN (by rw [← Int.natCast_mul, ← el]; omega), el, Int.natCast_mul]
          refine Yd ?_
          simp only [q34_12]
          refine Xg [] (by kernel_rfl) (by kernel_rfl) (by kernel_rfl) (by kernel_rfl) ?_
          simp (maxSteps := 2000000) only [s34, ↓Za, ↓Zk, ↓Zr, ↓Ze, ↓Zj, ↓Zs, ↓Zg, ↓Zi, ↓Zf, ↓Zc, ↓Zb, ↓vdn, vup, Zl, Zh, Zm, Zo, Zn, List.map_cons, List.map_nil, cond_true, cond_false, aop, Zv, Zq, Zp, ev, sput, Zt, Zz, Yb, unK, Zd, Zw, Nat.reduceBEq, Nat.reduceAdd, Int.reduceBEq, Int.reduceBNe, Int.reduceLT, Zu, Ya, tup, tyf, fA1, Xx c5, ne_eq, hg0, not_false_eq_true, q1, m1]
          refine hB [(0, v), (2, .int .i64 0), (3, Zx (Nat.lcm m n : Nat)), (8, v), (9, Zx ps.length), (10, Zx (k : Nat))] _ _ ?_ (by simp (maxSteps := 2000000) only [↓Za, ↓Zk, ↓Zr, ↓Ze, ↓Zj, ↓Zs, ↓Zg, ↓Zi, ↓Zf, ↓Zc, ↓Zb, ↓vdn, vup, Zl, Zh, Zm, Zo, Zn, List.map_cons, List.map_nil, cond_true, cond_false, aop, Zv, Zq, Zp, ev, sput, Zt, Zz, Yb, unK, Zd, Zw, Nat.reduceBEq, Nat.reduceAdd, Int.reduceBEq, Int.reduceBNe, Int.reduceLT, Zu, Ya, tup, tyf])
          clear hB
          try clear B
          refine Yd ?_
          simp (maxSteps := 2000000) only [s34, ↓Za, ↓Zk, ↓Zr, ↓Ze, ↓Zj, ↓Zs, ↓Zg, ↓Zi, ↓Zf, ↓Zc, ↓Zb, ↓vdn, vup, Zl, Zh, Zm, Zo, Zn, List.map_cons, List.map_nil, cond_true, cond_false, aop, Zv, Zq, Zp, ev, sput, Zt, Zz, Yb, unK, Zd, Zw, Nat.reduceBEq, Nat.reduceAdd, Int.reduceBEq, Int.reduceBNe, Int.reduceLT, Zu, Ya, tup, tyf, add1 (show k < 9223372036854775807 by omega)]
          exact hQ2 _ _ _ ⟨(k + 1, Nat.lcm m n, H), ⟨hk', Nat.lcm_pos hm0 hn0, by simp only; omega, hmul, hEH⟩, by simp only; omega, by simp (maxSteps := 2000000) only [↓Za, ↓Zk, ↓Zr, ↓Ze, ↓Zj, ↓Zs, ↓Zg, ↓Zi, ↓Zf, ↓Zc, ↓Zb, ↓vdn, vup, Zl, Zh, Zm, Zo, Zn, List.map_cons, List.map_nil, cond_true, cond_false, aop, Zv, Zq, Zp, ev, sput, Zt, Zz, Yb, unK, Zd, Zw, Nat.reduceBEq, Nat.reduceAdd, Int.reduceBEq, Int.reduceBNe, Int.reduceLT, Zu, Ya, tup, tyf], rfl⟩
      · have e0 : (((w : Nat) : Int) != 0) = true := by
          have : ((w : Nat) : Int) ≠ 0 := by omega
          simpa using this
        have e1 : ¬ ((w : Nat) : Int) = 0 := by omega
        have etm : ((u : Nat) : Int).tmod ((w : Nat) : Int) = ((u % w : Nat) : Int) := by rw [Int.tmod_eq_emod_of_nonneg (by omega)]; rfl
        have hlt := Nat.mod_lt u (show w > 0 by omega)
        refine Zy fun N9 hN9 => ?_
        simp (maxSteps := 2000000) only [s34, ↓Za, ↓Zk, ↓Zr, ↓Ze, ↓Zj, ↓Zs, ↓Zg, ↓Zi, ↓Zf, ↓Zc, ↓Zb, ↓vdn, vup, Zl, Zh, Zm, Zo, Zn, List.map_cons, List.map_nil, cond_true, cond_false, aop, Zv, Zq, Zp, ev, sput, Zt, Zz, Yb, unK, Zd, Zw, Nat.reduceBEq, Nat.reduceAdd, Int.reduceBEq, Int.reduceBNe, Int.reduceLT, Zu, Ya, tup, tyf, e0]
        refine hN9 [(0, v), (2, .int .i64 0), (3, Zx (m : Nat)), (5, .pointer (some ⟨hp.length, 0, none⟩)), (6, Zx (u : Nat)), (7, Zx (w : Nat)), (8, v), (9, Zx ps.length), (10, Zx (k : Nat))] _ _ ?_ (by simp (maxSteps := 2000000) only [↓Za, ↓Zk, ↓Zr, ↓Ze, ↓Zj, ↓Zs, ↓Zg, ↓Zi, ↓Zf, ↓Zc, ↓Zb, ↓vdn, vup, Zl, Zh, Zm, Zo, Zn, List.map_cons, List.map_nil, cond_true, cond_false, aop, Zv, Zq, Zp, ev, sput, Zt, Zz, Yb, unK, Zd, Zw, Nat.reduceBEq, Nat.reduceAdd, Int.reduceBEq, Int.reduceBNe, Int.reduceLT, Zu, Ya, tup, tyf])
        clear hN9
        try clear N9
        refine Yd ?_
        simp only [q34_9, Ze]
        refine Xg [] (by kernel_rfl) (by kernel_rfl) (by kernel_rfl) (by kernel_rfl) ?_
        simp (maxSteps := 2000000) only [s34, ↓Za, ↓Zk, ↓Zr, ↓Ze, ↓Zj, ↓Zs, ↓Zg, ↓Zi, ↓Zf, ↓Zc, ↓Zb, ↓vdn, vup, Zl, Zh, Zm, Zo, Zn, List.map_cons, List.map_nil, cond_true, cond_false, aop, Zv, Zq, Zp, ev, sput, Zt, Zz, Yb, unK, Zd, Zw, Nat.reduceBEq, Nat.reduceAdd, Int.reduceBEq, Int.reduceBNe, Int.reduceLT, Zu, Ya, tup, tyf, ne_eq, e1, not_false_eq_true, etm]
        refine hQ4 _ _ _ ⟨(w, u % w), ⟨?_, hw, by simp only; omega⟩, hlt, by simp (maxSteps := 2000000) only [↓Za, ↓Zk, ↓Zr, ↓Ze, ↓Zj, ↓Zs, ↓Zg, ↓Zi, ↓Zf, ↓Zc, ↓Zb, ↓vdn, vup, Zl, Zh, Zm, Zo, Zn, List.map_cons, List.map_nil, cond_true, cond_false, aop, Zv, Zq, Zp, ev, sput, Zt, Zz, Yb, unK, Zd, Zw, Nat.reduceBEq, Nat.reduceAdd, Int.reduceBEq, Int.reduceBNe, Int.reduceLT, Zu, Ya, tup, tyf], rfl⟩
        simp only
        rw [← huw, Nat.gcd_comm u w, Nat.gcd_rec w u, Nat.gcd_comm]
  · obtain rfl : k = ps.length := by omega
    rw [List.drop_length, mulTo] at hmul
    refine Zy fun N10 hN10 => ?_
    simp (maxSteps := 2000000) only [s34, ↓Za, ↓Zk, ↓Zr, ↓Ze, ↓Zj, ↓Zs, ↓Zg, ↓Zi, ↓Zf, ↓Zc, ↓Zb, ↓vdn, vup, Zl, Zh, Zm, Zo, Zn, List.map_cons, List.map_nil, cond_true, cond_false, aop, Zv, Zq, Zp, ev, sput, Zt, Zz, Yb, unK, Zd, Zw, Nat.reduceBEq, Nat.reduceAdd, Int.reduceBEq, Int.reduceBNe, Int.reduceLT, Zu, Ya, tup, tyf, hin]
    refine hN10 [(0, v), (2, .int .i64 0), (3, Zx (m : Nat)), (8, v), (9, Zx ps.length), (10, Zx ps.length), (11, .bool false)] _ _ ?_ (by simp (maxSteps := 2000000) only [↓Za, ↓Zk, ↓Zr, ↓Ze, ↓Zj, ↓Zs, ↓Zg, ↓Zi, ↓Zf, ↓Zc, ↓Zb, ↓vdn, vup, Zl, Zh, Zm, Zo, Zn, List.map_cons, List.map_nil, cond_true, cond_false, aop, Zv, Zq, Zp, ev, sput, Zt, Zz, Yb, unK, Zd, Zw, Nat.reduceBEq, Nat.reduceAdd, Int.reduceBEq, Int.reduceBNe, Int.reduceLT, Zu, Ya, tup, tyf])
    clear hN10
    try clear N10
    refine Zy fun N11 hN11 => ?_
    simp (maxSteps := 2000000) only [s34, ↓Za, ↓Zk, ↓Zr, ↓Ze, ↓Zj, ↓Zs, ↓Zg, ↓Zi, ↓Zf, ↓Zc, ↓Zb, ↓vdn, vup, Zl, Zh, Zm, Zo, Zn, List.map_cons, List.map_nil, cond_true, cond_false, aop, Zv, Zq, Zp, ev, sput, Zt, Zz, Yb, unK, Zd, Zw, Nat.reduceBEq, Nat.reduceAdd, Int.reduceBEq, Int.reduceBNe, Int.reduceLT, Zu, Ya, tup, tyf]
    refine hQ2 _ _ _ (hQ _ _ _ ?_)
    simp (maxSteps := 2000000) only [s34, ↓Za, ↓Zk, ↓Zr, ↓Ze, ↓Zj, ↓Zs, ↓Zg, ↓Zi, ↓Zf, ↓Zc, ↓Zb, ↓vdn, vup, Zl, Zh, Zm, Zo, Zn, List.map_cons, List.map_nil, cond_true, cond_false, aop, Zv, Zq, Zp, ev, sput, Zt, Zz, Yb, unK, Zd, Zw, Nat.reduceBEq, Nat.reduceAdd, Int.reduceBEq, Int.reduceBNe, Int.reduceLT, Zu, Ya, tup, tyf, if_true]
    refine hM [(0, v), (2, .int .i64 0), (3, Zx (m : Nat)), (8, v), (9, Zx ps.length), (10, Zx ps.length), (11, .bool false)] _ _ ?_ (by simp (maxSteps := 2000000) only [↓Za, ↓Zk, ↓Zr, ↓Ze, ↓Zj, ↓Zs, ↓Zg, ↓Zi, ↓Zf, ↓Zc, ↓Zb, ↓vdn, vup, Zl, Zh, Zm, Zo, Zn, List.map_cons, List.map_nil, cond_true, cond_false, aop, Zv, Zq, Zp, ev, sput, Zt, Zz, Yb, unK, Zd, Zw, Nat.reduceBEq, Nat.reduceAdd, Int.reduceBEq, Int.reduceBNe, Int.reduceLT, Zu, Ya, tup, tyf])
    clear hM
    try clear M
    refine Yd ?_
    simp (maxSteps := 2000000) only [s34, ↓Za, ↓Zk, ↓Zr, ↓Ze, ↓Zj, ↓Zs, ↓Zg, ↓Zi, ↓Zf, ↓Zc, ↓Zb, ↓vdn, vup, Zl, Zh, Zm, Zo, Zn, List.map_cons, List.map_nil, cond_true, cond_false, aop, Zv, Zq, Zp, ev, sput, Zt, Zz, Yb, unK, Zd, Zw, Nat.reduceBEq, Nat.reduceAdd, Int.reduceBEq, Int.reduceBNe, Int.reduceLT, Zu, Ya, tup, tyf, hmul]
    exact hE
end Go.Proofs.Try.Am

namespace Go.Proofs.Try.Am
open Go.Am
set_option maxRecDepth 100000
/-! 61: (planchet bets.belief).of -/
@[reducible] def q61_0 : SCode := .region [⟨some 4, .alloc 26, none⟩]
@[reducible] def q61_1 : SCode := .region [⟨some 8, .call { callee := .value (.func 70), args := #[.const (.int .i64 0)], argTypes := #[3] }, none⟩,
    ⟨some 5, .alloc 26, none⟩,
    ⟨none, .store 26 (.tmp 5) (.tmp 8), none⟩]
@[reducible] def q61_2 : SCode := .region [⟨some 9, .move (.tmp 0), none⟩,
    ⟨some 10, .call { callee := .builtin .len, args := #[.tmp 9], argTypes := #[90] }, none⟩,
    ⟨some 11, .move (.const (.int .i64 0)), none⟩]
@[reducible] def q61_3 : SCode := .region [⟨some 12, .binOp .lss 3 (.tmp 11) (.tmp 10) 3, none⟩]
@[reducible] def q61_4 : SCode := .region [⟨some 13, .move (.tmp 11), none⟩,
    ⟨some 14, .indexAddr 90 (.tmp 9) (.tmp 11), none⟩,
    ⟨some 15, .load 26 (.tmp 14), none⟩,
    ⟨some 7, .alloc 26, none⟩,
    ⟨some 6, .assign (.tmp 13), none⟩,
    ⟨none, .store 26 (.tmp 7) (.tmp 15), none⟩]
@[reducible] def q61_5 : SCode := .region [⟨some 16, .move (.tmp 1), none⟩,
    ⟨some 17, .move (.tmp 6), none⟩,
    ⟨some 18, .binOp .shr 3 (.tmp 16) (.tmp 17) 3, none⟩,
    ⟨some 19, .binOp .and 3 (.tmp 18) (.const (.int .i64 1)) 3, none⟩,
    ⟨some 20, .binOp .eql 3 (.tmp 19) (.const (.int .i64 1)) 3, none⟩]
@[reducible] def q61_6 : SCode := .region [⟨some 21, .load 26 (.tmp 5), none⟩,
    ⟨some 22, .load 26 (.tmp 7), none⟩,
    ⟨some 23, .call { callee := .value (.func 71), args := #[.tmp 21, .const (.int .i64 1), .tmp 22], argTypes := #[26, 3, 26] }, none⟩,
    ⟨none, .store 26 (.tmp 5) (.tmp 23), none⟩]
@[reducible] def q61_7 : SCode := .region [⟨some 24, .binOp .add 3 (.tmp 11) (.const (.int .i64 1)) 3, none⟩,
    ⟨some 11, .move (.tmp 24), none⟩]
def l61_0 : SCode := (.seq q61_3 (.seq (.cond (.tmp 12) .skip (.exit 0)) (.seq (.block 1 (.seq q61_4 (.seq q61_5 (.cond (.tmp 20) q61_6 .skip)))) q61_7)))
@[reducible] def q61_8 : SCode := .region [⟨some 25, .load 26 (.tmp 5), none⟩,
    ⟨none, .store 26 (.tmp 4) (.tmp 25), none⟩]
def s61 : SCode := (.seq q61_0 (.seq q61_1 (.seq (.seq q61_2 (.block 0 (.loop l61_0))) (.seq q61_8 .ret))))
theorem s61_strip : Yk (Yi Try.f61) = s61 := by kernel_rfl
theorem s61_ok : Yp 26 (Yi Try.f61) = true := by kernel_rfl
end Go.Proofs.Try.Am

namespace Go.Proofs.Try.Am
open Go.Am Bq
set_option maxRecDepth 100000
set_option maxHeartbeats 1000000

/-- Whether fractions are n chances. -/
def chances (n : Int) (ps : List (Int × Int)) : Bool := decide ((ps.length : Int) = n) && (decide (Xt ps ≠ 0) && ps.all fun p => decide (p.1 ≤ p.2))

theorem s38_callW [Tabs Try.prog] {args : List Value} {h : Yc} {Q : Value → Yc → Prop} (hsz : args.length ≤ 28) (hk : AWS Try.prog 28 s38 (Zu Try.prog [.tmp 4] Q) (Zp 0 args) h) : ACall Try.prog 38 args h Q :=
  Yv Try.func38 rfl (enters_of Try.func38 (by kernel_rfl) rfl) rfl rfl (by decide) s38_strip s38_ok hsz hk
theorem chances_call [Tabs prog] {h : Yc} {v : Value} {n : Int} {ps : List (Int × Int)} (hv : PairSl h v ps) (hl : ps.length < 9223372036854775808) (hx : InR ps) : Xi prog 38 [Zx n, v] h (.bool (chances n ps)) := by
  refine ACall.forget (Low.bool _) ?_
  refine s38_callW (by simp) ?_
  simp only [s38]
  refine Zy fun N1 hN1 => ?_
  simp (maxSteps := 2000000) only [s38, ↓Za, ↓Zk, ↓Zr, ↓Ze, ↓Zj, ↓Zs, ↓Zg, ↓Zi, ↓Zf, ↓Zc, ↓Zb, ↓vdn, vup, Zl, Zh, Zm, Zo, Zn, List.map_cons, List.map_nil, cond_true, cond_false, aop, Zv, Zq, Zp, ev, sput, Zt, Zz, Yb, unK, Zd, Zw, Nat.reduceBEq, Nat.reduceAdd, Int.reduceBEq, Int.reduceBNe, Int.reduceLT, Zu, Ya, tup, tyf]
  refine hN1 [(0, Zx n), (1, v), (4, .bool false)] _ _ ?_ (by simp (maxSteps := 2000000) only [↓Za, ↓Zk, ↓Zr, ↓Ze, ↓Zj, ↓Zs, ↓Zg, ↓Zi, ↓Zf, ↓Zc, ↓Zb, ↓vdn, vup, Zl, Zh, Zm, Zo, Zn, List.map_cons, List.map_nil, cond_true, cond_false, aop, Zv, Zq, Zp, ev, sput, Zt, Zz, Yb, unK, Zd, Zw, Nat.reduceBEq, Nat.reduceAdd, Int.reduceBEq, Int.reduceBNe, Int.reduceLT, Zu, Ya, tup, tyf])
  clear hN1
  try clear N1
  by_cases hn : (ps.length : Int) = n
  · have hne : (((ps.length : Nat) : Int) != n) = false := by simp [bne, hn]
    have e0 : chances n ps = (decide (Xt ps ≠ 0) && ps.all fun p => decide (p.1 ≤ p.2)) := by rw [chances, hn]; simp
    refine Zy fun M hM => ?_
    simp (maxSteps := 2000000) only [s38, ↓Za, ↓Zk, ↓Zr, ↓Ze, ↓Zj, ↓Zs, ↓Zg, ↓Zi, ↓Zf, ↓Zc, ↓Zb, ↓vdn, vup, Zl, Zh, Zm, Zo, Zn, List.map_cons, List.map_nil, cond_true, cond_false, aop, Zv, Zq, Zp, ev, sput, Zt, Zz, Yb, unK, Zd, Zw, Nat.reduceBEq, Nat.reduceAdd, Int.reduceBEq, Int.reduceBNe, Int.reduceLT, Zu, Ya, tup, tyf, hv.len, hne, Yx, List.nil_append, List.append_nil, List.toList_toArray, List.cons_append]
    refine (mult_call hv hl hx).mono ?_
    rintro _ h ⟨rfl, rfl⟩
    by_cases hm : Xt ps = 0
    · have h1 : (((Xt ps : Nat) : Int) == 0) = true := by simp [hm]
      simp (maxSteps := 2000000) only [s38, ↓Za, ↓Zk, ↓Zr, ↓Ze, ↓Zj, ↓Zs, ↓Zg, ↓Zi, ↓Zf, ↓Zc, ↓Zb, ↓vdn, vup, Zl, Zh, Zm, Zo, Zn, List.map_cons, List.map_nil, cond_true, cond_false, aop, Zv, Zq, Zp, ev, sput, Zt, Zz, Yb, unK, Zd, Zw, Nat.reduceBEq, Nat.reduceAdd, Int.reduceBEq, Int.reduceBNe, Int.reduceLT, Zu, Ya, tup, tyf, h1]
      rw [e0, hm]
      exact ⟨by simp, Ext.refl _ _⟩
    · have h1 : (((Xt ps : Nat) : Int) == 0) = false := by simp; omega
      simp (maxSteps := 2000000) only [s38, ↓Za, ↓Zk, ↓Zr, ↓Ze, ↓Zj, ↓Zs, ↓Zg, ↓Zi, ↓Zf, ↓Zc, ↓Zb, ↓vdn, vup, Zl, Zh, Zm, Zo, Zn, List.map_cons, List.map_nil, cond_true, cond_false, aop, Zv, Zq, Zp, ev, sput, Zt, Zz, Yb, unK, Zd, Zw, Nat.reduceBEq, Nat.reduceAdd, Int.reduceBEq, Int.reduceBNe, Int.reduceLT, Zu, Ya, tup, tyf, h1]
      refine hM [(0, Zx n), (1, v), (4, .bool false)] _ _ ?_ (by simp (maxSteps := 2000000) only [↓Za, ↓Zk, ↓Zr, ↓Ze, ↓Zj, ↓Zs, ↓Zg, ↓Zi, ↓Zf, ↓Zc, ↓Zb, ↓vdn, vup, Zl, Zh, Zm, Zo, Zn, List.map_cons, List.map_nil, cond_true, cond_false, aop, Zv, Zq, Zp, ev, sput, Zt, Zz, Yb, unK, Zd, Zw, Nat.reduceBEq, Nat.reduceAdd, Int.reduceBEq, Int.reduceBNe, Int.reduceLT, Zu, Ya, tup, tyf])
      clear hM
      try clear M
      refine Ye fun Z hZ => ?_
      refine Zy fun N2 hN2 => ?_
      simp (maxSteps := 2000000) only [s38, ↓Za, ↓Zk, ↓Zr, ↓Ze, ↓Zj, ↓Zs, ↓Zg, ↓Zi, ↓Zf, ↓Zc, ↓Zb, ↓vdn, vup, Zl, Zh, Zm, Zo, Zn, List.map_cons, List.map_nil, cond_true, cond_false, aop, Zv, Zq, Zp, ev, sput, Zt, Zz, Yb, unK, Zd, Zw, Nat.reduceBEq, Nat.reduceAdd, Int.reduceBEq, Int.reduceBNe, Int.reduceLT, Zu, Ya, tup, tyf, hv.len]
      refine hN2 [(0, Zx n), (1, v), (4, .bool false), (16, v), (17, Zx ps.length), (18, .int .i64 0)] _ _ ?_ (by simp (maxSteps := 2000000) only [↓Za, ↓Zk, ↓Zr, ↓Ze, ↓Zj, ↓Zs, ↓Zg, ↓Zi, ↓Zf, ↓Zc, ↓Zb, ↓vdn, vup, Zl, Zh, Zm, Zo, Zn, List.map_cons, List.map_nil, cond_true, cond_false, aop, Zv, Zq, Zp, ev, sput, Zt, Zz, Yb, unK, Zd, Zw, Nat.reduceBEq, Nat.reduceAdd, Int.reduceBEq, Int.reduceBNe, Int.reduceLT, Zu, Ya, tup, tyf])
      clear hN2
      try clear N2
      refine Yf ?_
      refine Yh fun Q hQ => ?_
      refine Yz (γ := Nat × Yc) (fun s => s.1 ≤ ps.length ∧ (∀ p ∈ ps.take s.1, p.1 ≤ p.2) ∧ Ext (fun _ => False) h s.2)
        (fun s => ([(0, Zx n), (1, v), (4, .bool false), (16, v), (17, Zx ps.length), (18, Zx (s.1 : Nat))], s.2)) (fun s => ps.length - s.1) (0, h) ⟨Nat.zero_le _, by simp, Ext.refl _ _⟩ (by simp (maxSteps := 2000000) only [↓Za, ↓Zk, ↓Zr, ↓Ze, ↓Zj, ↓Zs, ↓Zg, ↓Zi, ↓Zf, ↓Zc, ↓Zb, ↓vdn, vup, Zl, Zh, Zm, Zo, Zn, List.map_cons, List.map_nil, cond_true, cond_false, aop, Zv, Zq, Zp, ev, sput, Zt, Zz, Yb, unK, Zd, Zw, Nat.reduceBEq, Nat.reduceAdd, Int.reduceBEq, Int.reduceBNe, Int.reduceLT, Zu, Ya, tup, tyf, Int.natCast_zero]) rfl ?_
      rintro ⟨k, hp⟩ ⟨hk, hall, hE⟩
      simp only at hk hall hE
      refine Yh fun Q2 hQ2 => ?_
      simp only [l38_0]
      by_cases hin : (k : Int) < ps.length
      · have hk' : k < ps.length := by omega
        have hvp := hv.ext hE
        obtain ⟨⟨x, y⟩, hxy⟩ : ∃ p, ps.getD k (0, 0) = p := ⟨_, rfl⟩
        have hmem : (x, y) ∈ ps := hxy ▸ Wa hk'
        obtain ⟨H, hH⟩ : ∃ H, H = hp ++ [fC x y] := ⟨_, rfl⟩
        have c5 : H[hp.length]? = some (fC x y) := by rw [hH]; exact Yl _ _
        have hEH : Ext (fun _ => False) h H := by rw [hH]; exact hE.trans (Ext.app _ _ _)
        refine Zy fun N3 hN3 => ?_
        simp (maxSteps := 2000000) only [s38, ↓Za, ↓Zk, ↓Zr, ↓Ze, ↓Zj, ↓Zs, ↓Zg, ↓Zi, ↓Zf, ↓Zc, ↓Zb, ↓vdn, vup, Zl, Zh, Zm, Zo, Zn, List.map_cons, List.map_nil, cond_true, cond_false, aop, Zv, Zq, Zp, ev, sput, Zt, Zz, Yb, unK, Zd, Zw, Nat.reduceBEq, Nat.reduceAdd, Int.reduceBEq, Int.reduceBNe, Int.reduceLT, Zu, Ya, tup, tyf, hin]
        refine hN3 [(0, Zx n), (1, v), (4, .bool false), (16, v), (17, Zx ps.length), (18, Zx (k : Nat)), (19, .bool true)] _ _ ?_ (by simp (maxSteps := 2000000) only [↓Za, ↓Zk, ↓Zr, ↓Ze, ↓Zj, ↓Zs, ↓Zg, ↓Zi, ↓Zf, ↓Zc, ↓Zb, ↓vdn, vup, Zl, Zh, Zm, Zo, Zn, List.map_cons, List.map_nil, cond_true, cond_false, aop, Zv, Zq, Zp, ev, sput, Zt, Zz, Yb, unK, Zd, Zw, Nat.reduceBEq, Nat.reduceAdd, Int.reduceBEq, Int.reduceBNe, Int.reduceLT, Zu, Ya, tup, tyf])
        clear hN3
        try clear N3
        refine Zy fun N4 hN4 => ?_
        simp (maxSteps := 2000000) only [s38, ↓Za, ↓Zk, ↓Zr, ↓Ze, ↓Zj, ↓Zs, ↓Zg, ↓Zi, ↓Zf, ↓Zc, ↓Zb, ↓vdn, vup, Zl, Zh, Zm, Zo, Zn, List.map_cons, List.map_nil, cond_true, cond_false, aop, Zv, Zq, Zp, ev, sput, Zt, Zz, Yb, unK, Zd, Zw, Nat.reduceBEq, Nat.reduceAdd, Int.reduceBEq, Int.reduceBNe, Int.reduceLT, Zu, Ya, tup, tyf]
        refine hN4 [(0, Zx n), (1, v), (4, .bool false), (16, v), (17, Zx ps.length), (18, Zx (k : Nat))] _ _ ?_ (by simp (maxSteps := 2000000) only [↓Za, ↓Zk, ↓Zr, ↓Ze, ↓Zj, ↓Zs, ↓Zg, ↓Zi, ↓Zf, ↓Zc, ↓Zb, ↓vdn, vup, Zl, Zh, Zm, Zo, Zn, List.map_cons, List.map_nil, cond_true, cond_false, aop, Zv, Zq, Zp, ev, sput, Zt, Zz, Yb, unK, Zd, Zw, Nat.reduceBEq, Nat.reduceAdd, Int.reduceBEq, Int.reduceBNe, Int.reduceLT, Zu, Ya, tup, tyf])
        clear hN4
        try clear N4
        refine Ye fun B hB => ?_
        refine Yf ?_
        refine Zy fun N5 hN5 => ?_
        simp (maxSteps := 2000000) only [s38, ↓Za, ↓Zk, ↓Zr, ↓Ze, ↓Zj, ↓Zs, ↓Zg, ↓Zi, ↓Zf, ↓Zc, ↓Zb, ↓vdn, vup, Zl, Zh, Zm, Zo, Zn, List.map_cons, List.map_nil, cond_true, cond_false, aop, Zv, Zq, Zp, ev, sput, Zt, Zz, Yb, unK, Zd, Zw, Nat.reduceBEq, Nat.reduceAdd, Int.reduceBEq, Int.reduceBNe, Int.reduceLT, Zu, Ya, tup, tyf, hvp.idx el_47 Wh hk', hvp.load Vh hk', hxy, Xq, Xb, Xp, Wi (Yl hp z0) rfl, Wj]
        rw [← hH]
        refine hN5 [(0, Zx n), (1, v), (4, .bool false), (6, .pointer (some ⟨hp.length, 0, none⟩)), (16, v), (17, Zx ps.length), (18, Zx (k : Nat))] _ _ ?_ (by simp (maxSteps := 2000000) only [↓Za, ↓Zk, ↓Zr, ↓Ze, ↓Zj, ↓Zs, ↓Zg, ↓Zi, ↓Zf, ↓Zc, ↓Zb, ↓vdn, vup, Zl, Zh, Zm, Zo, Zn, List.map_cons, List.map_nil, cond_true, cond_false, aop, Zv, Zq, Zp, ev, sput, Zt, Zz, Yb, unK, Zd, Zw, Nat.reduceBEq, Nat.reduceAdd, Int.reduceBEq, Int.reduceBNe, Int.reduceLT, Zu, Ya, tup, tyf])
        clear hN5
        try clear N5
        refine Yd ?_
        by_cases hgt : x > y
        · simp (maxSteps := 2000000) only [s38, ↓Za, ↓Zk, ↓Zr, ↓Ze, ↓Zj, ↓Zs, ↓Zg, ↓Zi, ↓Zf, ↓Zc, ↓Zb, ↓vdn, vup, Zl, Zh, Zm, Zo, Zn, List.map_cons, List.map_nil, cond_true, cond_false, aop, Zv, Zq, Zp, ev, sput, Zt, Zz, Yb, unK, Zd, Zw, Nat.reduceBEq, Nat.reduceAdd, Int.reduceBEq, Int.reduceBNe, Int.reduceLT, Zu, Ya, tup, tyf, fA0, fA1, Ws c5, Xx c5, hgt]
          refine hQ2 _ _ _ (hQ _ _ _ ?_)
          have h2 : (ps.all fun p => decide (p.1 ≤ p.2)) = false := by
            rw [List.all_eq_false]; exact ⟨_, hmem, by simp; omega⟩
          simp (maxSteps := 2000000) only [s38, ↓Za, ↓Zk, ↓Zr, ↓Ze, ↓Zj, ↓Zs, ↓Zg, ↓Zi, ↓Zf, ↓Zc, ↓Zb, ↓vdn, vup, Zl, Zh, Zm, Zo, Zn, List.map_cons, List.map_nil, cond_true, cond_false, aop, Zv, Zq, Zp, ev, sput, Zt, Zz, Yb, unK, Zd, Zw, Nat.reduceBEq, Nat.reduceAdd, Int.reduceBEq, Int.reduceBNe, Int.reduceLT, Zu, Ya, tup, tyf, e0, h2, Bool.and_false]
          exact hEH
        · simp (maxSteps := 2000000) only [s38, ↓Za, ↓Zk, ↓Zr, ↓Ze, ↓Zj, ↓Zs, ↓Zg, ↓Zi, ↓Zf, ↓Zc, ↓Zb, ↓vdn, vup, Zl, Zh, Zm, Zo, Zn, List.map_cons, List.map_nil, cond_true, cond_false, aop, Zv, Zq, Zp, ev, sput, Zt, Zz, Yb, unK, Zd, Zw, Nat.reduceBEq, Nat.reduceAdd, Int.reduceBEq, Int.reduceBNe, Int.reduceLT, Zu, Ya, tup, tyf, fA0, fA1, Ws c5, Xx c5, hgt]
          refine hB [(0, Zx n), (1, v), (4, .bool false), (16, v), (17, Zx ps.length), (18, Zx (k : Nat))] _ _ ?_ (by simp (maxSteps := 2000000) only [↓Za, ↓Zk, ↓Zr, ↓Ze, ↓Zj, ↓Zs, ↓Zg, ↓Zi, ↓Zf, ↓Zc, ↓Zb, ↓vdn, vup, Zl, Zh, Zm, Zo, Zn, List.map_cons, List.map_nil, cond_true, cond_false, aop, Zv, Zq, Zp, ev, sput, Zt, Zz, Yb, unK, Zd, Zw, Nat.reduceBEq, Nat.reduceAdd, Int.reduceBEq, Int.reduceBNe, Int.reduceLT, Zu, Ya, tup, tyf])
          clear hB
          try clear B
          refine Yd ?_
          simp (maxSteps := 2000000) only [s38, ↓Za, ↓Zk, ↓Zr, ↓Ze, ↓Zj, ↓Zs, ↓Zg, ↓Zi, ↓Zf, ↓Zc, ↓Zb, ↓vdn, vup, Zl, Zh, Zm, Zo, Zn, List.map_cons, List.map_nil, cond_true, cond_false, aop, Zv, Zq, Zp, ev, sput, Zt, Zz, Yb, unK, Zd, Zw, Nat.reduceBEq, Nat.reduceAdd, Int.reduceBEq, Int.reduceBNe, Int.reduceLT, Zu, Ya, tup, tyf, add1 (show k < 9223372036854775807 by omega)]
          refine hQ2 _ _ _ ⟨(k + 1, H), ⟨hk', ?_, hEH⟩, by simp only; omega, by simp (maxSteps := 2000000) only [↓Za, ↓Zk, ↓Zr, ↓Ze, ↓Zj, ↓Zs, ↓Zg, ↓Zi, ↓Zf, ↓Zc, ↓Zb, ↓vdn, vup, Zl, Zh, Zm, Zo, Zn, List.map_cons, List.map_nil, cond_true, cond_false, aop, Zv, Zq, Zp, ev, sput, Zt, Zz, Yb, unK, Zd, Zw, Nat.reduceBEq, Nat.reduceAdd, Int.reduceBEq, Int.reduceBNe, Int.reduceLT, Zu, Ya, tup, tyf], rfl⟩
          intro p hp'
          simp only [List.take_succ] at hp'
          rw [List.getD, List.getElem?_eq_getElem hk', Option.getD_some] at hxy
          rw [List.getElem?_eq_getElem hk', hxy] at hp'
          rcases List.mem_append.1 hp' with h3 | h3
          · exact hall p h3
          · simp at h3; subst h3; simp only; omega
      · obtain rfl : k = ps.length := by omega
        refine Zy fun N6 hN6 => ?_
        simp (maxSteps := 2000000) only [s38, ↓Za, ↓Zk, ↓Zr, ↓Ze, ↓Zj, ↓Zs, ↓Zg, ↓Zi, ↓Zf, ↓Zc, ↓Zb, ↓vdn, vup, Zl, Zh, Zm, Zo, Zn, List.map_cons, List.map_nil, cond_true, cond_false, aop, Zv, Zq, Zp, ev, sput, Zt, Zz, Yb, unK, Zd, Zw, Nat.reduceBEq, Nat.reduceAdd, Int.reduceBEq, Int.reduceBNe, Int.reduceLT, Zu, Ya, tup, tyf, hin]
        refine hN6 [(0, Zx n), (1, v), (4, .bool false), (16, v), (17, Zx ps.length), (18, Zx ps.length), (19, .bool false)] _ _ ?_ (by simp (maxSteps := 2000000) only [↓Za, ↓Zk, ↓Zr, ↓Ze, ↓Zj, ↓Zs, ↓Zg, ↓Zi, ↓Zf, ↓Zc, ↓Zb, ↓vdn, vup, Zl, Zh, Zm, Zo, Zn, List.map_cons, List.map_nil, cond_true, cond_false, aop, Zv, Zq, Zp, ev, sput, Zt, Zz, Yb, unK, Zd, Zw, Nat.reduceBEq, Nat.reduceAdd, Int.reduceBEq, Int.reduceBNe, Int.reduceLT, Zu, Ya, tup, tyf])
        clear hN6
        try clear N6
        refine Zy fun N7 hN7 => ?_
        simp (maxSteps := 2000000) only [s38, ↓Za, ↓Zk, ↓Zr, ↓Ze, ↓Zj, ↓Zs, ↓Zg, ↓Zi, ↓Zf, ↓Zc, ↓Zb, ↓vdn, vup, Zl, Zh, Zm, Zo, Zn, List.map_cons, List.map_nil, cond_true, cond_false, aop, Zv, Zq, Zp, ev, sput, Zt, Zz, Yb, unK, Zd, Zw, Nat.reduceBEq, Nat.reduceAdd, Int.reduceBEq, Int.reduceBNe, Int.reduceLT, Zu, Ya, tup, tyf]
        refine hQ2 _ _ _ (hQ _ _ _ ?_)
        simp (maxSteps := 2000000) only [s38, ↓Za, ↓Zk, ↓Zr, ↓Ze, ↓Zj, ↓Zs, ↓Zg, ↓Zi, ↓Zf, ↓Zc, ↓Zb, ↓vdn, vup, Zl, Zh, Zm, Zo, Zn, List.map_cons, List.map_nil, cond_true, cond_false, aop, Zv, Zq, Zp, ev, sput, Zt, Zz, Yb, unK, Zd, Zw, Nat.reduceBEq, Nat.reduceAdd, Int.reduceBEq, Int.reduceBNe, Int.reduceLT, Zu, Ya, tup, tyf, if_true]
        refine hZ [(0, Zx n), (1, v), (4, .bool false), (16, v), (17, Zx ps.length), (18, Zx ps.length), (19, .bool false)] _ _ ?_ (by simp (maxSteps := 2000000) only [↓Za, ↓Zk, ↓Zr, ↓Ze, ↓Zj, ↓Zs, ↓Zg, ↓Zi, ↓Zf, ↓Zc, ↓Zb, ↓vdn, vup, Zl, Zh, Zm, Zo, Zn, List.map_cons, List.map_nil, cond_true, cond_false, aop, Zv, Zq, Zp, ev, sput, Zt, Zz, Yb, unK, Zd, Zw, Nat.reduceBEq, Nat.reduceAdd, Int.reduceBEq, Int.reduceBNe, Int.reduceLT, Zu, Ya, tup, tyf])
        clear hZ
        try clear Z
        refine Yd ?_
        have h2 : (ps.all fun p => decide (p.1 ≤ p.2)) = true := by
          rw [List.take_length] at hall
          rw [List.all_eq_true]; exact fun p hp => by simp [hall p hp]
        simp (maxSteps := 2000000) only [s38, ↓Za, ↓Zk, ↓Zr, ↓Ze, ↓Zj, ↓Zs, ↓Zg, ↓Zi, ↓Zf, ↓Zc, ↓Zb, ↓vdn, vup, Zl, Zh, Zm, Zo, Zn, List.map_cons, List.map_nil, cond_true, cond_false, aop, Zv, Zq, Zp, ev, sput, Zt, Zz, Yb, unK, Zd, Zw, Nat.reduceBEq, Nat.reduceAdd, Int.reduceBEq, Int.reduceBNe, Int.reduceLT, Zu, Ya, tup, tyf]
        rw [e0, h2]
        exact ⟨by simp [hm], hE⟩
  · have hne : (((ps.length : Nat) : Int) != n) = true := by simpa [bne] using hn
    refine Yd ?_
    simp (maxSteps := 2000000) only [s38, ↓Za, ↓Zk, ↓Zr, ↓Ze, ↓Zj, ↓Zs, ↓Zg, ↓Zi, ↓Zf, ↓Zc, ↓Zb, ↓vdn, vup, Zl, Zh, Zm, Zo, Zn, List.map_cons, List.map_nil, cond_true, cond_false, aop, Zv, Zq, Zp, ev, sput, Zt, Zz, Yb, unK, Zd, Zw, Nat.reduceBEq, Nat.reduceAdd, Int.reduceBEq, Int.reduceBNe, Int.reduceLT, Zu, Ya, tup, tyf, hv.len, hne]
    exact ⟨by simp [chances, hn], Ext.refl _ _⟩

/-- The parts of the first ones in an event. -/
def Xs (m : Nat) (ps : List (Int × Int)) (evt : Nat) : Nat → Int
  | 0 => 0
  | k + 1 => Xs m ps evt k + if evt.testBit k then (m : Int) / (ps.getD k (0, 0)).2 * (ps.getD k (0, 0)).1 else 0
theorem chances_chn {n : Int} {ps : List (Int × Int)} (h : chances n ps = true) : Chn ps ∧ (ps.length : Int) = n := by
  simp only [chances, Bool.and_eq_true, decide_eq_true_eq, List.all_eq_true] at h
  exact ⟨⟨h.2.1, h.2.2⟩, h.1⟩
theorem Vg {ps : List (Int × Int)} (c : Chn ps) (evt : Nat) : ∀ k, k ≤ ps.length → 0 ≤ Xs (Xt ps) ps evt k ∧ Xs (Xt ps) ps evt k ≤ k * Xt ps
  | 0, _ => ⟨Int.le_refl _, by simp [Xs]⟩
  | k + 1, hk => by
    obtain ⟨h1, h2⟩ := Vg c evt k (by omega)
    obtain ⟨-, h3, h4, -⟩ := c.rp (Wa (show k < ps.length by omega))
    have e : ((k + 1 : Nat) : Int) * (Xt ps : Int) = k * Xt ps + Xt ps := by push_cast; grind
    rw [e, Xs]
    split <;> omega

theorem s74_callW [Tabs Try.prog] {args : List Value} {h : Yc} {Q : Value → Yc → Prop} (hsz : args.length ≤ 34) (hk : AWS Try.prog 34 s74 (Zu Try.prog [.tmp 4] Q) (Zp 0 args) h) : ACall Try.prog 74 args h Q :=
  Yv Try.func74 rfl (enters_of Try.func74 (by kernel_rfl) rfl) rfl rfl (by decide) s74_strip s74_ok hsz hk
theorem part_call [Tabs prog] {h : Yc} {v : Value} {evt : Nat} {ps : List (Int × Int)} (hv : PairSl h v ps) (hl : ps.length ≤ 100) (hx : InR ps) (c : Chn ps) (hev : evt < 9223372036854775808) : Xi prog 74 [v, Zx (evt : Nat)] h (Zx (Xs (Xt ps) ps evt ps.length)) := by
  have hm10 := (mult_spec c.m).2.2
  refine ACall.forget (Low.int _ _) ?_
  refine s74_callW (by simp) ?_
  simp only [s74]
  refine Zy fun N8 hN8 => ?_
  simp (maxSteps := 2000000) only [s74, ↓Za, ↓Zk, ↓Zr, ↓Ze, ↓Zj, ↓Zs, ↓Zg, ↓Zi, ↓Zf, ↓Zc, ↓Zb, ↓vdn, vup, Zl, Zh, Zm, Zo, Zn, List.map_cons, List.map_nil, cond_true, cond_false, aop, Zv, Zq, Zp, ev, sput, Zt, Zz, Yb, unK, Zd, Zw, Nat.reduceBEq, Nat.reduceAdd, Int.reduceBEq, Int.reduceBNe, Int.reduceLT, Zu, Ya, tup, tyf]
  refine hN8 [(0, v), (1, Zx (evt : Nat)), (4, .int .i64 0)] _ _ ?_ (by simp (maxSteps := 2000000) only [↓Za, ↓Zk, ↓Zr, ↓Ze, ↓Zj, ↓Zs, ↓Zg, ↓Zi, ↓Zf, ↓Zc, ↓Zb, ↓vdn, vup, Zl, Zh, Zm, Zo, Zn, List.map_cons, List.map_nil, cond_true, cond_false, aop, Zv, Zq, Zp, ev, sput, Zt, Zz, Yb, unK, Zd, Zw, Nat.reduceBEq, Nat.reduceAdd, Int.reduceBEq, Int.reduceBNe, Int.reduceLT, Zu, Ya, tup, tyf])
  clear hN8
  try clear N8
  refine Zy fun N9 hN9 => ?_
  simp (maxSteps := 2000000) only [s74, ↓Za, ↓Zk, ↓Zr, ↓Ze, ↓Zj, ↓Zs, ↓Zg, ↓Zi, ↓Zf, ↓Zc, ↓Zb, ↓vdn, vup, Zl, Zh, Zm, Zo, Zn, List.map_cons, List.map_nil, cond_true, cond_false, aop, Zv, Zq, Zp, ev, sput, Zt, Zz, Yb, unK, Zd, Zw, Nat.reduceBEq, Nat.reduceAdd, Int.reduceBEq, Int.reduceBNe, Int.reduceLT, Zu, Ya, tup, tyf, Yx, List.nil_append, List.append_nil, List.toList_toArray, List.cons_append]
  refine (mult_call hv (by omega) hx).mono ?_
  rintro _ h ⟨rfl, rfl⟩
  refine hN9 [(0, v), (1, Zx (evt : Nat)), (4, .int .i64 0), (5, Zx (Xt ps : Nat)), (6, .int .i64 0)] _ _ ?_ (by simp (maxSteps := 2000000) only [↓Za, ↓Zk, ↓Zr, ↓Ze, ↓Zj, ↓Zs, ↓Zg, ↓Zi, ↓Zf, ↓Zc, ↓Zb, ↓vdn, vup, Zl, Zh, Zm, Zo, Zn, List.map_cons, List.map_nil, cond_true, cond_false, aop, Zv, Zq, Zp, ev, sput, Zt, Zz, Yb, unK, Zd, Zw, Nat.reduceBEq, Nat.reduceAdd, Int.reduceBEq, Int.reduceBNe, Int.reduceLT, Zu, Ya, tup, tyf])
  clear hN9
  try clear N9
  refine Ye fun Z hZ => ?_
  refine Zy fun N10 hN10 => ?_
  simp (maxSteps := 2000000) only [s74, ↓Za, ↓Zk, ↓Zr, ↓Ze, ↓Zj, ↓Zs, ↓Zg, ↓Zi, ↓Zf, ↓Zc, ↓Zb, ↓vdn, vup, Zl, Zh, Zm, Zo, Zn, List.map_cons, List.map_nil, cond_true, cond_false, aop, Zv, Zq, Zp, ev, sput, Zt, Zz, Yb, unK, Zd, Zw, Nat.reduceBEq, Nat.reduceAdd, Int.reduceBEq, Int.reduceBNe, Int.reduceLT, Zu, Ya, tup, tyf, hv.len]
  refine hN10 [(0, v), (1, Zx (evt : Nat)), (4, .int .i64 0), (5, Zx (Xt ps : Nat)), (6, .int .i64 0), (11, v), (12, Zx ps.length), (13, .int .i64 0)] _ _ ?_ (by simp (maxSteps := 2000000) only [↓Za, ↓Zk, ↓Zr, ↓Ze, ↓Zj, ↓Zs, ↓Zg, ↓Zi, ↓Zf, ↓Zc, ↓Zb, ↓vdn, vup, Zl, Zh, Zm, Zo, Zn, List.map_cons, List.map_nil, cond_true, cond_false, aop, Zv, Zq, Zp, ev, sput, Zt, Zz, Yb, unK, Zd, Zw, Nat.reduceBEq, Nat.reduceAdd, Int.reduceBEq, Int.reduceBNe, Int.reduceLT, Zu, Ya, tup, tyf])
  clear hN10
  try clear N10
  refine Yf ?_
  refine Yh fun Q hQ => ?_
  refine Yz (γ := Nat × Yc) (fun s => s.1 ≤ ps.length ∧ Ext (fun _ => False) h s.2)
    (fun s => ([(0, v), (1, Zx (evt : Nat)), (4, .int .i64 0), (5, Zx (Xt ps : Nat)), (6, Zx (Xs (Xt ps) ps evt s.1)), (11, v), (12, Zx ps.length), (13, Zx (s.1 : Nat))], s.2)) (fun s => ps.length - s.1) (0, h) ⟨Nat.zero_le _, Ext.refl _ _⟩ (by simp (maxSteps := 2000000) only [↓Za, ↓Zk, ↓Zr, ↓Ze, ↓Zj, ↓Zs, ↓Zg, ↓Zi, ↓Zf, ↓Zc, ↓Zb, ↓vdn, vup, Zl, Zh, Zm, Zo, Zn, List.map_cons, List.map_nil, cond_true, cond_false, aop, Zv, Zq, Zp, ev, sput, Zt, Zz, Yb, unK, Zd, Zw, Nat.reduceBEq, Nat.reduceAdd, Int.reduceBEq, Int.reduceBNe, Int.reduceLT, Zu, Ya, tup, tyf, Int.natCast_zero, Xs]) rfl ?_
  rintro ⟨k, hp⟩ ⟨hk, hE⟩
  simp only at hk hE
  refine Yh fun Q2 hQ2 => ?_
  simp only [l74_0]
  by_cases hin : (k : Int) < ps.length
  · have hk' : k < ps.length := by omega
    have hvp := hv.ext hE
    obtain ⟨⟨x, y⟩, hxy⟩ : ∃ p, ps.getD k (0, 0) = p := ⟨_, rfl⟩
    obtain ⟨r1, r2, r3, r4, r5, r6⟩ := c.rp (Wa hk')
    obtain ⟨b1, b2⟩ := Vg c evt k hk
    have ht := testV (y := k) hev
    have hnext : Xs (Xt ps) ps evt (k + 1) = Xs (Xt ps) ps evt k + if evt.testBit k then (Xt ps : Int) / y * x else 0 := by rw [Xs, hxy]
    rw [hxy] at r1 r2 r3 r4 r5 r6
    simp only at r1 r2 r3 r4 r5 r6
    have hbm : (k : Int) * (Xt ps : Int) ≤ 100 * (Xt ps : Int) := Int.mul_le_mul_of_nonneg_right (by omega) (by omega)
    obtain ⟨H, hH⟩ : ∃ H, H = hp ++ [fC x y] := ⟨_, rfl⟩
    have c5 : H[hp.length]? = some (fC x y) := by rw [hH]; exact Yl _ _
    have hEH : Ext (fun _ => False) h H := by rw [hH]; exact hE.trans (Ext.app _ _ _)
    refine Zy fun N11 hN11 => ?_
    simp (maxSteps := 2000000) only [s74, ↓Za, ↓Zk, ↓Zr, ↓Ze, ↓Zj, ↓Zs, ↓Zg, ↓Zi, ↓Zf, ↓Zc, ↓Zb, ↓vdn, vup, Zl, Zh, Zm, Zo, Zn, List.map_cons, List.map_nil, cond_true, cond_false, aop, Zv, Zq, Zp, ev, sput, Zt, Zz, Yb, unK, Zd, Zw, Nat.reduceBEq, Nat.reduceAdd, Int.reduceBEq, Int.reduceBNe, Int.reduceLT, Zu, Ya, tup, tyf, hin]
    refine hN11 [(0, v), (1, Zx (evt : Nat)), (4, .int .i64 0), (5, Zx (Xt ps : Nat)), (6, Zx (Xs (Xt ps) ps evt k)), (11, v), (12, Zx ps.length), (13, Zx (k : Nat)), (14, .bool true)] _ _ ?_ (by simp (maxSteps := 2000000) only [↓Za, ↓Zk, ↓Zr, ↓Ze, ↓Zj, ↓Zs, ↓Zg, ↓Zi, ↓Zf, ↓Zc, ↓Zb, ↓vdn, vup, Zl, Zh, Zm, Zo, Zn, List.map_cons, List.map_nil, cond_true, cond_false, aop, Zv, Zq, Zp, ev, sput, Zt, Zz, Yb, unK, Zd, Zw, Nat.reduceBEq, Nat.reduceAdd, Int.reduceBEq, Int.reduceBNe, Int.reduceLT, Zu, Ya, tup, tyf])
    clear hN11
    try clear N11
    refine Zy fun N12 hN12 => ?_
    simp (maxSteps := 2000000) only [s74, ↓Za, ↓Zk, ↓Zr, ↓Ze, ↓Zj, ↓Zs, ↓Zg, ↓Zi, ↓Zf, ↓Zc, ↓Zb, ↓vdn, vup, Zl, Zh, Zm, Zo, Zn, List.map_cons, List.map_nil, cond_true, cond_false, aop, Zv, Zq, Zp, ev, sput, Zt, Zz, Yb, unK, Zd, Zw, Nat.reduceBEq, Nat.reduceAdd, Int.reduceBEq, Int.reduceBNe, Int.reduceLT, Zu, Ya, tup, tyf]
    refine hN12 [(0, v), (1, Zx (evt : Nat)), (4, .int .i64 0), (5, Zx (Xt ps : Nat)), (6, Zx (Xs (Xt ps) ps evt k)), (11, v), (12, Zx ps.length), (13, Zx (k : Nat))] _ _ ?_ (by simp (maxSteps := 2000000) only [↓Za, ↓Zk, ↓Zr, ↓Ze, ↓Zj, ↓Zs, ↓Zg, ↓Zi, ↓Zf, ↓Zc, ↓Zb, ↓vdn, vup, Zl, Zh, Zm, Zo, Zn, List.map_cons, List.map_nil, cond_true, cond_false, aop, Zv, Zq, Zp, ev, sput, Zt, Zz, Yb, unK, Zd, Zw, Nat.reduceBEq, Nat.reduceAdd, Int.reduceBEq, Int.reduceBNe, Int.reduceLT, Zu, Ya, tup, tyf])
    clear hN12
    try clear N12
    refine Ye fun B hB => ?_
    refine Yf ?_
    refine Zy fun N13 hN13 => ?_
    simp (maxSteps := 2000000) only [s74, ↓Za, ↓Zk, ↓Zr, ↓Ze, ↓Zj, ↓Zs, ↓Zg, ↓Zi, ↓Zf, ↓Zc, ↓Zb, ↓vdn, vup, Zl, Zh, Zm, Zo, Zn, List.map_cons, List.map_nil, cond_true, cond_false, aop, Zv, Zq, Zp, ev, sput, Zt, Zz, Yb, unK, Zd, Zw, Nat.reduceBEq, Nat.reduceAdd, Int.reduceBEq, Int.reduceBNe, Int.reduceLT, Zu, Ya, tup, tyf, hvp.idx el_47 Wh hk', hvp.load Vh hk', hxy, Xq, Xb, Xp, Wi (Yl hp z0) rfl, Wj]
    rw [← hH]
    refine hN13 [(0, v), (1, Zx (evt : Nat)), (4, .int .i64 0), (5, Zx (Xt ps : Nat)), (6, Zx (Xs (Xt ps) ps evt k)), (7, Zx (k : Nat)), (8, .pointer (some ⟨hp.length, 0, none⟩)), (11, v), (12, Zx ps.length), (13, Zx (k : Nat))] _ _ ?_ (by simp (maxSteps := 2000000) only [↓Za, ↓Zk, ↓Zr, ↓Ze, ↓Zj, ↓Zs, ↓Zg, ↓Zi, ↓Zf, ↓Zc, ↓Zb, ↓vdn, vup, Zl, Zh, Zm, Zo, Zn, List.map_cons, List.map_nil, cond_true, cond_false, aop, Zv, Zq, Zp, ev, sput, Zt, Zz, Yb, unK, Zd, Zw, Nat.reduceBEq, Nat.reduceAdd, Int.reduceBEq, Int.reduceBNe, Int.reduceLT, Zu, Ya, tup, tyf])
    clear hN13
    try clear N13
    have fin : ∀ e z, z = Xs (Xt ps) ps evt (k + 1) → ELe e [(0, v), (1, Zx (evt : Nat)), (4, .int .i64 0), (5, Zx (Xt ps : Nat)), (6, Zx z), (11, v), (12, Zx ps.length), (13, Zx (k : Nat))] → B e H := by
      intro e z hz he
      subst hz
      refine hB _ _ _ ?_ he
      refine Yd ?_
      simp (maxSteps := 2000000) only [s74, ↓Za, ↓Zk, ↓Zr, ↓Ze, ↓Zj, ↓Zs, ↓Zg, ↓Zi, ↓Zf, ↓Zc, ↓Zb, ↓vdn, vup, Zl, Zh, Zm, Zo, Zn, List.map_cons, List.map_nil, cond_true, cond_false, aop, Zv, Zq, Zp, ev, sput, Zt, Zz, Yb, unK, Zd, Zw, Nat.reduceBEq, Nat.reduceAdd, Int.reduceBEq, Int.reduceBNe, Int.reduceLT, Zu, Ya, tup, tyf, add1 (show k < 9223372036854775807 by omega)]
      exact hQ2 _ _ _ ⟨(k + 1, H), ⟨hk', hEH⟩, by simp only; omega, by simp (maxSteps := 2000000) only [↓Za, ↓Zk, ↓Zr, ↓Ze, ↓Zj, ↓Zs, ↓Zg, ↓Zi, ↓Zf, ↓Zc, ↓Zb, ↓vdn, vup, Zl, Zh, Zm, Zo, Zn, List.map_cons, List.map_nil, cond_true, cond_false, aop, Zv, Zq, Zp, ev, sput, Zt, Zz, Yb, unK, Zd, Zw, Nat.reduceBEq, Nat.reduceAdd, Int.reduceBEq, Int.reduceBNe, Int.reduceLT, Zu, Ya, tup, tyf], rfl⟩
    refine Zy fun N14 hN14 => ?_
    simp (maxSteps := 2000000) only [s74, ↓Za, ↓Zk, ↓Zr, ↓Ze, ↓Zj, ↓Zs, ↓Zg, ↓Zi, ↓Zf, ↓Zc, ↓Zb, ↓vdn, vup, Zl, Zh, Zm, Zo, Zn, List.map_cons, List.map_nil, cond_true, cond_false, aop, Zv, Zq, Zp, ev, sput, Zt, Zz, Yb, unK, Zd, Zw, Nat.reduceBEq, Nat.reduceAdd, Int.reduceBEq, Int.reduceBNe, Int.reduceLT, Zu, Ya, tup, tyf, ht, beq1]
    refine hN14 [(0, v), (1, Zx (evt : Nat)), (4, .int .i64 0), (5, Zx (Xt ps : Nat)), (6, Zx (Xs (Xt ps) ps evt k)), (7, Zx (k : Nat)), (8, .pointer (some ⟨hp.length, 0, none⟩)), (11, v), (12, Zx ps.length), (13, Zx (k : Nat)), (22, .bool (evt.testBit k))] _ _ ?_ (by simp (maxSteps := 2000000) only [↓Za, ↓Zk, ↓Zr, ↓Ze, ↓Zj, ↓Zs, ↓Zg, ↓Zi, ↓Zf, ↓Zc, ↓Zb, ↓vdn, vup, Zl, Zh, Zm, Zo, Zn, List.map_cons, List.map_nil, cond_true, cond_false, aop, Zv, Zq, Zp, ev, sput, Zt, Zz, Yb, unK, Zd, Zw, Nat.reduceBEq, Nat.reduceAdd, Int.reduceBEq, Int.reduceBNe, Int.reduceLT, Zu, Ya, tup, tyf])
    clear hN14
    try clear N14
    refine Yd ?_
    have hy0 : ¬ y = 0 := by omega
    have q1 : quoV .i64 ((Xt ps : Nat) : Int) y = (Xt ps : Int) / y := quo_dvd (by omega) r6
    have m1 : mulV .i64 ((Xt ps : Int) / y) x = (Xt ps : Int) / y * x := mulN (by omega)
    have a1 : addV .i64 (Xs (Xt ps) ps evt k) ((Xt ps : Int) / y * x) = Xs (Xt ps) ps evt k + (Xt ps : Int) / y * x := addN (by omega)
    cases hbit : evt.testBit k with
    | false =>
      simp (maxSteps := 2000000) only [s74, ↓Za, ↓Zk, ↓Zr, ↓Ze, ↓Zj, ↓Zs, ↓Zg, ↓Zi, ↓Zf, ↓Zc, ↓Zb, ↓vdn, vup, Zl, Zh, Zm, Zo, Zn, List.map_cons, List.map_nil, cond_true, cond_false, aop, Zv, Zq, Zp, ev, sput, Zt, Zz, Yb, unK, Zd, Zw, Nat.reduceBEq, Nat.reduceAdd, Int.reduceBEq, Int.reduceBNe, Int.reduceLT, Zu, Ya, tup, tyf, hbit]
      exact fin _ (Xs (Xt ps) ps evt k) (by rw [hnext, hbit]; simp) (by simp (maxSteps := 2000000) only [↓Za, ↓Zk, ↓Zr, ↓Ze, ↓Zj, ↓Zs, ↓Zg, ↓Zi, ↓Zf, ↓Zc, ↓Zb, ↓vdn, vup, Zl, Zh, Zm, Zo, Zn, List.map_cons, List.map_nil, cond_true, cond_false, aop, Zv, Zq, Zp, ev, sput, Zt, Zz, Yb, unK, Zd, Zw, Nat.reduceBEq, Nat.reduceAdd, Int.reduceBEq, Int.reduceBNe, Int.reduceLT, Zu, Ya, tup, tyf])
    | true =>
      simp (maxSteps := 2000000) only [s74, ↓Za, ↓Zk, ↓Zr, ↓Ze, ↓Zj, ↓Zs, ↓Zg, ↓Zi, ↓Zf, ↓Zc, ↓Zb, ↓vdn, vup, Zl, Zh, Zm, Zo, Zn, List.map_cons, List.map_nil, cond_true, cond_false, aop, Zv, Zq, Zp, ev, sput, Zt, Zz, Yb, unK, Zd, Zw, Nat.reduceBEq, Nat.reduceAdd, Int.reduceBEq, Int.reduceBNe, Int.reduceLT, Zu, Ya, tup, tyf, hbit]
      refine Xg [] (by kernel_rfl) (by kernel_rfl) (by kernel_rfl) (by kernel_rfl) ?_
      simp (maxSteps := 2000000) only [s74, ↓Za, ↓Zk, ↓Zr, ↓Ze, ↓Zj, ↓Zs, ↓Zg, ↓Zi, ↓Zf, ↓Zc, ↓Zb, ↓vdn, vup, Zl, Zh, Zm, Zo, Zn, List.map_cons, List.map_nil, cond_true, cond_false, aop, Zv, Zq, Zp, ev, sput, Zt, Zz, Yb, unK, Zd, Zw, Nat.reduceBEq, Nat.reduceAdd, Int.reduceBEq, Int.reduceBNe, Int.reduceLT, Zu, Ya, tup, tyf, fA0, fA1, Ws c5, Xx c5, ne_eq, hy0, not_false_eq_true, q1, m1, a1]
      exact fin _ (Xs (Xt ps) ps evt k + (Xt ps : Int) / y * x) (by rw [hnext, hbit]; simp) (by simp (maxSteps := 2000000) only [↓Za, ↓Zk, ↓Zr, ↓Ze, ↓Zj, ↓Zs, ↓Zg, ↓Zi, ↓Zf, ↓Zc, ↓Zb, ↓vdn, vup, Zl, Zh, Zm, Zo, Zn, List.map_cons, List.map_nil, cond_true, cond_false, aop, Zv, Zq, Zp, ev, sput, Zt, Zz, Yb, unK, Zd, Zw, Nat.reduceBEq, Nat.reduceAdd, Int.reduceBEq, Int.reduceBNe, Int.reduceLT, Zu, Ya, tup, tyf])
  · obtain rfl : k = ps.length := by omega
    refine Zy fun N15 hN15 => ?_
    simp (maxSteps := 2000000) only [s74, ↓Za, ↓Zk, ↓Zr, ↓Ze, ↓Zj, ↓Zs, ↓Zg, ↓Zi, ↓Zf, ↓Zc, ↓Zb, ↓vdn, vup, Zl, Zh, Zm, Zo, Zn, List.map_cons, List.map_nil, cond_true, cond_false, aop, Zv, Zq, Zp, ev, sput, Zt, Zz, Yb, unK, Zd, Zw, Nat.reduceBEq, Nat.reduceAdd, Int.reduceBEq, Int.reduceBNe, Int.reduceLT, Zu, Ya, tup, tyf, hin]
    refine hN15 [(0, v), (1, Zx (evt : Nat)), (4, .int .i64 0), (5, Zx (Xt ps : Nat)), (6, Zx (Xs (Xt ps) ps evt ps.length)), (11, v), (12, Zx ps.length), (13, Zx ps.length), (14, .bool false)] _ _ ?_ (by simp (maxSteps := 2000000) only [↓Za, ↓Zk, ↓Zr, ↓Ze, ↓Zj, ↓Zs, ↓Zg, ↓Zi, ↓Zf, ↓Zc, ↓Zb, ↓vdn, vup, Zl, Zh, Zm, Zo, Zn, List.map_cons, List.map_nil, cond_true, cond_false, aop, Zv, Zq, Zp, ev, sput, Zt, Zz, Yb, unK, Zd, Zw, Nat.reduceBEq, Nat.reduceAdd, Int.reduceBEq, Int.reduceBNe, Int.reduceLT, Zu, Ya, tup, tyf])
    clear hN15
    try clear N15
    refine Zy fun N16 hN16 => ?_
    simp (maxSteps := 2000000) only [s74, ↓Za, ↓Zk, ↓Zr, ↓Ze, ↓Zj, ↓Zs, ↓Zg, ↓Zi, ↓Zf, ↓Zc, ↓Zb, ↓vdn, vup, Zl, Zh, Zm, Zo, Zn, List.map_cons, List.map_nil, cond_true, cond_false, aop, Zv, Zq, Zp, ev, sput, Zt, Zz, Yb, unK, Zd, Zw, Nat.reduceBEq, Nat.reduceAdd, Int.reduceBEq, Int.reduceBNe, Int.reduceLT, Zu, Ya, tup, tyf]
    refine hQ2 _ _ _ (hQ _ _ _ ?_)
    simp (maxSteps := 2000000) only [s74, ↓Za, ↓Zk, ↓Zr, ↓Ze, ↓Zj, ↓Zs, ↓Zg, ↓Zi, ↓Zf, ↓Zc, ↓Zb, ↓vdn, vup, Zl, Zh, Zm, Zo, Zn, List.map_cons, List.map_nil, cond_true, cond_false, aop, Zv, Zq, Zp, ev, sput, Zt, Zz, Yb, unK, Zd, Zw, Nat.reduceBEq, Nat.reduceAdd, Int.reduceBEq, Int.reduceBNe, Int.reduceLT, Zu, Ya, tup, tyf, if_true]
    refine hZ [(0, v), (1, Zx (evt : Nat)), (4, .int .i64 0), (5, Zx (Xt ps : Nat)), (6, Zx (Xs (Xt ps) ps evt ps.length)), (11, v), (12, Zx ps.length), (13, Zx ps.length), (14, .bool false)] _ _ ?_ (by simp (maxSteps := 2000000) only [↓Za, ↓Zk, ↓Zr, ↓Ze, ↓Zj, ↓Zs, ↓Zg, ↓Zi, ↓Zf, ↓Zc, ↓Zb, ↓vdn, vup, Zl, Zh, Zm, Zo, Zn, List.map_cons, List.map_nil, cond_true, cond_false, aop, Zv, Zq, Zp, ev, sput, Zt, Zz, Yb, unK, Zd, Zw, Nat.reduceBEq, Nat.reduceAdd, Int.reduceBEq, Int.reduceBNe, Int.reduceLT, Zu, Ya, tup, tyf])
    clear hZ
    try clear Z
    refine Yd ?_
    simp (maxSteps := 2000000) only [s74, ↓Za, ↓Zk, ↓Zr, ↓Ze, ↓Zj, ↓Zs, ↓Zg, ↓Zi, ↓Zf, ↓Zc, ↓Zb, ↓vdn, vup, Zl, Zh, Zm, Zo, Zn, List.map_cons, List.map_nil, cond_true, cond_false, aop, Zv, Zq, Zp, ev, sput, Zt, Zz, Yb, unK, Zd, Zw, Nat.reduceBEq, Nat.reduceAdd, Int.reduceBEq, Int.reduceBNe, Int.reduceLT, Zu, Ya, tup, tyf]
    exact hE
end Go.Proofs.Try.Am

namespace Go.Proofs.Try.Am
open Go.Am
set_option maxRecDepth 100000
end Go.Proofs.Try.Am

namespace Go.Proofs.Try.Am
open Go.Am
set_option maxRecDepth 100000
/-! 35: slices.Equal[[]planchet api.Frac,planchet api.Frac] -/
@[reducible] def q35_0 : SCode := .region [⟨some 4, .assign (.const (.bool false)), none⟩]
@[reducible] def q35_1 : SCode := .region [⟨some 6, .move (.tmp 0), none⟩,
    ⟨some 7, .call { callee := .builtin .len, args := #[.tmp 6], argTypes := #[47] }, none⟩,
    ⟨some 8, .move (.tmp 1), none⟩,
    ⟨some 9, .call { callee := .builtin .len, args := #[.tmp 8], argTypes := #[47] }, none⟩,
    ⟨some 10, .binOp .neq 3 (.tmp 7) (.tmp 9) 3, none⟩]
@[reducible] def q35_2 : SCode := .region [⟨some 4, .assign (.const (.bool false)), none⟩]
@[reducible] def q35_3 : SCode := .region [⟨some 11, .move (.tmp 0), none⟩,
    ⟨some 12, .call { callee := .builtin .len, args := #[.tmp 11], argTypes := #[47] }, none⟩,
    ⟨some 13, .move (.const (.int .i64 0)), none⟩]
@[reducible] def q35_4 : SCode := .region [⟨some 14, .binOp .lss 3 (.tmp 13) (.tmp 12) 3, none⟩]
@[reducible] def q35_5 : SCode := .region [⟨some 15, .move (.tmp 13), none⟩,
    ⟨some 5, .assign (.tmp 15), none⟩]
def q35_6 : SCode := .draw [⟨some 16, .move (.tmp 0), none⟩,
    ⟨some 17, .move (.tmp 5), none⟩,
    ⟨some 18, .indexAddr 47 (.tmp 16) (.tmp 17), none⟩,
    ⟨some 19, .load 26 (.tmp 18), none⟩,
    ⟨some 20, .move (.tmp 1), none⟩,
    ⟨some 21, .move (.tmp 5), none⟩,
    ⟨some 22, .indexAddr 47 (.tmp 20) (.tmp 21), none⟩,
    ⟨some 23, .load 26 (.tmp 22), none⟩,
    ⟨some 24, .binOp .neq 26 (.tmp 19) (.tmp 23) 26, none⟩]
   [[], [], [0, 1], [2], [], [], [4, 5], [6], [3, 7]]
@[reducible] def q35_7 : SCode := .region [⟨some 4, .assign (.const (.bool false)), none⟩]
@[reducible] def q35_8 : SCode := .region [⟨some 25, .binOp .add 3 (.tmp 13) (.const (.int .i64 1)) 3, none⟩,
    ⟨some 13, .move (.tmp 25), none⟩]
def l35_0 : SCode := (.seq q35_4 (.seq (.cond (.tmp 14) .skip (.exit 0)) (.seq (.block 1 (.seq q35_5 (.seq q35_6 (.cond (.tmp 24) (.seq q35_7 .ret) .skip)))) q35_8)))
@[reducible] def q35_9 : SCode := .region [⟨some 4, .assign (.const (.bool true)), none⟩]
def s35 : SCode := (.seq q35_0 (.seq (.seq q35_1 (.cond (.tmp 10) (.seq q35_2 .ret) .skip)) (.seq (.seq q35_3 (.block 0 (.loop l35_0))) (.seq q35_9 .ret))))
theorem s35_strip : Yk (Yi Try.f35) = s35 := by kernel_rfl
theorem s35_ok : Yp 26 (Yi Try.f35) = true := by kernel_rfl
/-! 101: slices.ContainsFunc[[]planchet api.Frac,planchet api.Frac] -/
@[reducible] def q101_0 : SCode := .region [⟨some 4, .assign (.const (.bool false)), none⟩]
@[reducible] def q101_1 : SCode := .region [⟨some 5, .move (.tmp 0), none⟩,
    ⟨some 6, .move (.tmp 1), none⟩,
    ⟨some 7, .call { callee := .value (.func 116), args := #[.tmp 5, .tmp 6], argTypes := #[47, 35] }, none⟩,
    ⟨some 8, .binOp .geq 3 (.tmp 7) (.const (.int .i64 0)) 3, none⟩,
    ⟨some 4, .assign (.tmp 8), none⟩]
def s101 : SCode := (.seq q101_0 (.seq q101_1 .ret))
theorem s101_strip : Yk (Yi Try.f101) = s101 := by kernel_rfl
theorem s101_ok : Yp 9 (Yi Try.f101) = true := by kernel_rfl
/-! 102: (planchet bets.table).corners$2 -/
@[reducible] def q102_0 : SCode := .region [⟨some 1, .box 26 (.tmp 0), none⟩,
    ⟨some 2, .assign (.const (.bool false)), none⟩]
@[reducible] def q102_1 : SCode := .region [⟨some 3, .fieldAddr 26 (.tmp 1) 0, none⟩,
    ⟨some 4, .load 3 (.tmp 3), none⟩,
    ⟨some 5, .binOp .lss 3 (.tmp 4) (.const (.int .i64 0)) 3, none⟩,
    ⟨some 2, .assign (.tmp 5), none⟩]
def s102 : SCode := (.seq q102_0 (.seq q102_1 .ret))
theorem s102_strip : Yk (Yi Try.f102) = s102 := by kernel_rfl
theorem s102_ok : Yp 6 (Yi Try.f102) = true := by kernel_rfl
end Go.Proofs.Try.Am

/-
  order: Turn.
  Plain theory: lines that show an order, by keys; their number is at most that of the chains, and at most three for six elements.
  Plain theory: the first of the shortest realizers; a search with repetitions finds the same.
  Printed by gen.py: the code of some functions, without what no step looks at; held against the program's own by the kernel.
  order: what stands behind each element of a line.
-/
import Derived.Test.YtnjacpfahhjpiaaDoorPk6
import Derived.Test.YtnjacpfahhjpiaaDoorPk3
import Derived.Test.YtnjacpfahhjpiaaDoorProg
import Derived.KernelRfl
import Derived.Shelf.Abstract
import Derived.Test.YtnjacpfahhjpiaaDoorPk4
set_option linter.all false
namespace Go.Proofs.Tryd.Am
open Go.Am Ord
set_option maxRecDepth 100000
set_option maxHeartbeats 2000000

/-- The order turned over. -/
def turnL (o : List Int) : List Int := (List.range o.length).map fun i => ((dn o i : Nat) : Int)
/-- The reference's table: elements below i are through, and i for those below j. -/
def Vp (o : List Int) (i j : Nat) : List Int := (List.range o.length).map fun k => ((if k < j then dnTo o k (i + 1) else dnTo o k i : Nat) : Int)
theorem turnT_len (o : List Int) (i j : Nat) : (Vp o i j).length = o.length := by simp [Vp]
theorem mapR_getD {f : Nat → Int} {n k : Nat} (hk : k < n) : ((List.range n).map f).getD k 0 = f k := by
  rw [List.getD, List.getElem?_map, List.getElem?_range hk]; rfl
theorem turnT_get {o : List Int} {i j k : Nat} (hk : k < o.length) : (Vp o i j).getD k 0 = ((if k < j then dnTo o k (i + 1) else dnTo o k i : Nat) : Int) := mapR_getD hk
theorem turnT_next (o : List Int) (i : Nat) : Vp o i o.length = Vp o (i + 1) 0 := by
  refine List.map_congr_left fun k hk => ?_
  rw [if_pos (List.mem_range.1 hk), if_neg (Nat.not_lt_zero k)]
theorem turnT_zero (o : List Int) : Vp o 0 0 = List.replicate o.length 0 := by
  rw [Vp]
  refine List.ext_getElem (by simp) fun k h1 h2 => ?_
  simp [dnTo]
theorem turnT_all (o : List Int) : Vp o o.length 0 = turnL o := by
  refine List.map_congr_left fun k hk => ?_
  rw [if_neg (Nat.not_lt_zero k), dnTo_all]
theorem turnT_skip {o : List Int} {i j : Nat} (h : ab o i j = false) : Vp o i (j + 1) = Vp o i j := by
  refine List.map_congr_left fun k hk => ?_
  by_cases h1 : k < j
  · rw [if_pos (by omega), if_pos h1]
  · by_cases h2 : k = j
    · subst h2
      rw [if_pos (by omega), if_neg h1, dnTo, h, if_neg (by decide), Nat.or_zero]
    · rw [if_neg (by omega), if_neg h1]
theorem turnT_set {o : List Int} {i j : Nat} (hj : j < o.length) (h : ab o i j = true) : (Vp o i j).set j ((dnTo o j i ||| 2 ^ i : Nat) : Int) = Vp o i (j + 1) := by
  refine List.ext_getElem (by simp [Vp]) fun k h1 h2 => ?_
  have hk : k < o.length := by simpa [Vp] using h2
  rw [List.getElem_set]
  by_cases hkj : j = k
  · subst hkj
    rw [if_pos rfl]
    simp only [Vp, List.getElem_map, List.getElem_range]
    rw [if_pos (by omega), dnTo, h, if_pos rfl]
  · rw [if_neg hkj]
    simp only [Vp, List.getElem_map, List.getElem_range]
    by_cases h3 : k < j
    · rw [if_pos h3, if_pos (by omega)]
    · rw [if_neg h3, if_neg (by omega)]

theorem s47_callW [Tabs Tryd.prog] {args : List Value} {h : Yb} {Q : Value → Yb → Prop} (hsz : args.length ≤ 34) (hk : AWS Tryd.prog 34 s47 (Zu Tryd.prog [.tmp 2] Q) (Zp 0 args) h) : ACall Tryd.prog 47 args h Q :=
  acall_w Tryd.func47 rfl (enters_of Tryd.func47 (by kernel_rfl) rfl) rfl rfl (by decide) s47_strip s47_ok hsz hk
theorem rturn_call [Tabs prog] {h : Yb} {v : Value} {o : List Int} (hv : IntSl h v o) (ho : ord o = true) : ACall prog 47 [v] h fun r h' => IntSl h' r (turnL o) ∧ Ext (fun _ => False) h h' := by
  have hl := Xk ho
  have hp := pow6 hl.2
  have hmk : ∀ {K : Value → Yb → Prop}, makeK prog h 22 (Zx (o.length : Nat)) (Zx (o.length : Nat)) K = K (.slice (some ⟨h.length, 0, none⟩) o.length o.length) (h ++ [.ints (List.replicate o.length 0) 3 false]) := fun {K} => makeI Wk zero_3 info_3 (by omega) (by omega)
  have hnew : ∀ T : List Int, (h ++ [Blk.ints T 3 false])[h.length]? = some (.ints T 3 false) := fun T => Yv _ _
  have hset : ∀ T T' : List Int, (h ++ [Blk.ints T 3 false]).set h.length (.ints T' 3 false) = h ++ [Blk.ints T' 3 false] := fun T T' => by
    rw [List.set_append_right _ _ (Nat.le_refl _), Nat.sub_self]; rfl
  have hvT : ∀ T : List Int, IntSl (h ++ [Blk.ints T 3 false]) v o := fun T => Yt hv (Ext.app _ _ _)
  refine s47_callW (by simp) ?_
  simp only [s47]
  refine Yc fun N1 hN1 => ?_
  simp (maxSteps := 2000000) only [s47, ↓Za, ↓Zm, ↓Zr, ↓Ze, ↓Zk, ↓Zs, ↓Zf, ↓Zi, ↓Zg, ↓Zc, ↓Zb, ↓vdn, vup, Zl, Zn, Zh, Zj, Zo, List.map_cons, List.map_nil, cond_true, cond_false, aop, Zv, Zq, Zp, ev, sput, Zt, Zy, Ya, unK, Zd, Zw, Nat.reduceBEq, Nat.reduceAdd, Int.reduceBEq, Int.reduceBNe, Int.reduceLT, Zu, Zz, tup, tyf]
  refine hN1 [(0, v), (2, .slice none 0 0)] _ _ ?_ (by simp (maxSteps := 2000000) only [↓Za, ↓Zm, ↓Zr, ↓Ze, ↓Zk, ↓Zs, ↓Zf, ↓Zi, ↓Zg, ↓Zc, ↓Zb, ↓vdn, vup, Zl, Zn, Zh, Zj, Zo, List.map_cons, List.map_nil, cond_true, cond_false, aop, Zv, Zq, Zp, ev, sput, Zt, Zy, Ya, unK, Zd, Zw, Nat.reduceBEq, Nat.reduceAdd, Int.reduceBEq, Int.reduceBNe, Int.reduceLT, Zu, Zz, tup, tyf])
  clear hN1
  try clear N1
  refine Yc fun N2 hN2 => ?_
  simp (maxSteps := 2000000) only [s47, ↓Za, ↓Zm, ↓Zr, ↓Ze, ↓Zk, ↓Zs, ↓Zf, ↓Zi, ↓Zg, ↓Zc, ↓Zb, ↓vdn, vup, Zl, Zn, Zh, Zj, Zo, List.map_cons, List.map_nil, cond_true, cond_false, aop, Zv, Zq, Zp, ev, sput, Zt, Zy, Ya, unK, Zd, Zw, Nat.reduceBEq, Nat.reduceAdd, Int.reduceBEq, Int.reduceBNe, Int.reduceLT, Zu, Zz, tup, tyf, hv.len, hmk]
  rw [← turnT_zero]
  refine hN2 [(0, v), (2, .slice none 0 0), (3, .slice (some ⟨h.length, 0, none⟩) o.length o.length)] _ _ ?_ (by simp (maxSteps := 2000000) only [↓Za, ↓Zm, ↓Zr, ↓Ze, ↓Zk, ↓Zs, ↓Zf, ↓Zi, ↓Zg, ↓Zc, ↓Zb, ↓vdn, vup, Zl, Zn, Zh, Zj, Zo, List.map_cons, List.map_nil, cond_true, cond_false, aop, Zv, Zq, Zp, ev, sput, Zt, Zy, Ya, unK, Zd, Zw, Nat.reduceBEq, Nat.reduceAdd, Int.reduceBEq, Int.reduceBNe, Int.reduceLT, Zu, Zz, tup, tyf])
  clear hN2
  try clear N2
  refine Yh fun Z hZ => ?_
  refine Yc fun N3 hN3 => ?_
  simp (maxSteps := 2000000) only [s47, ↓Za, ↓Zm, ↓Zr, ↓Ze, ↓Zk, ↓Zs, ↓Zf, ↓Zi, ↓Zg, ↓Zc, ↓Zb, ↓vdn, vup, Zl, Zn, Zh, Zj, Zo, List.map_cons, List.map_nil, cond_true, cond_false, aop, Zv, Zq, Zp, ev, sput, Zt, Zy, Ya, unK, Zd, Zw, Nat.reduceBEq, Nat.reduceAdd, Int.reduceBEq, Int.reduceBNe, Int.reduceLT, Zu, Zz, tup, tyf, (hvT (Vp o 0 0)).len]
  refine hN3 [(0, v), (2, .slice none 0 0), (3, .slice (some ⟨h.length, 0, none⟩) o.length o.length), (10, Zx o.length), (11, .int .i64 0)] _ _ ?_ (by simp (maxSteps := 2000000) only [↓Za, ↓Zm, ↓Zr, ↓Ze, ↓Zk, ↓Zs, ↓Zf, ↓Zi, ↓Zg, ↓Zc, ↓Zb, ↓vdn, vup, Zl, Zn, Zh, Zj, Zo, List.map_cons, List.map_nil, cond_true, cond_false, aop, Zv, Zq, Zp, ev, sput, Zt, Zy, Ya, unK, Zd, Zw, Nat.reduceBEq, Nat.reduceAdd, Int.reduceBEq, Int.reduceBNe, Int.reduceLT, Zu, Zz, tup, tyf])
  clear hN3
  try clear N3
  refine Yk ?_
  refine Yf fun Q hQ => ?_
  refine Xt (γ := Nat) (fun i => i ≤ o.length) (fun i => ([(0, v), (2, .slice none 0 0), (3, .slice (some ⟨h.length, 0, none⟩) o.length o.length), (10, Zx o.length), (11, Zx (i : Nat))], h ++ [Blk.ints (Vp o i 0) 3 false])) (fun i => o.length - i) 0 (Nat.zero_le _) (by simp (maxSteps := 2000000) only [↓Za, ↓Zm, ↓Zr, ↓Ze, ↓Zk, ↓Zs, ↓Zf, ↓Zi, ↓Zg, ↓Zc, ↓Zb, ↓vdn, vup, Zl, Zn, Zh, Zj, Zo, List.map_cons, List.map_nil, cond_true, cond_false, aop, Zv, Zq, Zp, ev, sput, Zt, Zy, Ya, unK, Zd, Zw, Nat.reduceBEq, Nat.reduceAdd, Int.reduceBEq, Int.reduceBNe, Int.reduceLT, Zu, Zz, tup, tyf, Int.natCast_zero]) rfl ?_
  rintro i hi
  refine Yf fun Q2 hQ2 => ?_
  simp only [l47_1]
  by_cases hin : (i : Int) < o.length
  · have hi' : i < o.length := by omega
    refine Yc fun N4 hN4 => ?_
    simp (maxSteps := 2000000) only [s47, ↓Za, ↓Zm, ↓Zr, ↓Ze, ↓Zk, ↓Zs, ↓Zf, ↓Zi, ↓Zg, ↓Zc, ↓Zb, ↓vdn, vup, Zl, Zn, Zh, Zj, Zo, List.map_cons, List.map_nil, cond_true, cond_false, aop, Zv, Zq, Zp, ev, sput, Zt, Zy, Ya, unK, Zd, Zw, Nat.reduceBEq, Nat.reduceAdd, Int.reduceBEq, Int.reduceBNe, Int.reduceLT, Zu, Zz, tup, tyf, hin]
    refine hN4 [(0, v), (2, .slice none 0 0), (3, .slice (some ⟨h.length, 0, none⟩) o.length o.length), (10, Zx o.length), (11, Zx (i : Nat)), (12, .bool true)] _ _ ?_ (by simp (maxSteps := 2000000) only [↓Za, ↓Zm, ↓Zr, ↓Ze, ↓Zk, ↓Zs, ↓Zf, ↓Zi, ↓Zg, ↓Zc, ↓Zb, ↓vdn, vup, Zl, Zn, Zh, Zj, Zo, List.map_cons, List.map_nil, cond_true, cond_false, aop, Zv, Zq, Zp, ev, sput, Zt, Zy, Ya, unK, Zd, Zw, Nat.reduceBEq, Nat.reduceAdd, Int.reduceBEq, Int.reduceBNe, Int.reduceLT, Zu, Zz, tup, tyf])
    clear hN4
    try clear N4
    refine Yc fun N5 hN5 => ?_
    simp (maxSteps := 2000000) only [s47, ↓Za, ↓Zm, ↓Zr, ↓Ze, ↓Zk, ↓Zs, ↓Zf, ↓Zi, ↓Zg, ↓Zc, ↓Zb, ↓vdn, vup, Zl, Zn, Zh, Zj, Zo, List.map_cons, List.map_nil, cond_true, cond_false, aop, Zv, Zq, Zp, ev, sput, Zt, Zy, Ya, unK, Zd, Zw, Nat.reduceBEq, Nat.reduceAdd, Int.reduceBEq, Int.reduceBNe, Int.reduceLT, Zu, Zz, tup, tyf]
    refine hN5 [(0, v), (2, .slice none 0 0), (3, .slice (some ⟨h.length, 0, none⟩) o.length o.length), (10, Zx o.length), (11, Zx (i : Nat))] _ _ ?_ (by simp (maxSteps := 2000000) only [↓Za, ↓Zm, ↓Zr, ↓Ze, ↓Zk, ↓Zs, ↓Zf, ↓Zi, ↓Zg, ↓Zc, ↓Zb, ↓vdn, vup, Zl, Zn, Zh, Zj, Zo, List.map_cons, List.map_nil, cond_true, cond_false, aop, Zv, Zq, Zp, ev, sput, Zt, Zy, Ya, unK, Zd, Zw, Nat.reduceBEq, Nat.reduceAdd, Int.reduceBEq, Int.reduceBNe, Int.reduceLT, Zu, Zz, tup, tyf])
    clear hN5
    try clear N5
    refine Yh fun B hB => ?_
    refine Yk ?_
    refine Yc fun N6 hN6 => ?_
    simp (maxSteps := 2000000) only [s47, ↓Za, ↓Zm, ↓Zr, ↓Ze, ↓Zk, ↓Zs, ↓Zf, ↓Zi, ↓Zg, ↓Zc, ↓Zb, ↓vdn, vup, Zl, Zn, Zh, Zj, Zo, List.map_cons, List.map_nil, cond_true, cond_false, aop, Zv, Zq, Zp, ev, sput, Zt, Zy, Ya, unK, Zd, Zw, Nat.reduceBEq, Nat.reduceAdd, Int.reduceBEq, Int.reduceBNe, Int.reduceLT, Zu, Zz, tup, tyf]
    refine hN6 [(0, v), (2, .slice none 0 0), (3, .slice (some ⟨h.length, 0, none⟩) o.length o.length), (4, Zx (i : Nat)), (10, Zx o.length), (11, Zx (i : Nat))] _ _ ?_ (by simp (maxSteps := 2000000) only [↓Za, ↓Zm, ↓Zr, ↓Ze, ↓Zk, ↓Zs, ↓Zf, ↓Zi, ↓Zg, ↓Zc, ↓Zb, ↓vdn, vup, Zl, Zn, Zh, Zj, Zo, List.map_cons, List.map_nil, cond_true, cond_false, aop, Zv, Zq, Zp, ev, sput, Zt, Zy, Ya, unK, Zd, Zw, Nat.reduceBEq, Nat.reduceAdd, Int.reduceBEq, Int.reduceBNe, Int.reduceLT, Zu, Zz, tup, tyf])
    clear hN6
    try clear N6
    refine Yc fun N7 hN7 => ?_
    simp (maxSteps := 2000000) only [s47, ↓Za, ↓Zm, ↓Zr, ↓Ze, ↓Zk, ↓Zs, ↓Zf, ↓Zi, ↓Zg, ↓Zc, ↓Zb, ↓vdn, vup, Zl, Zn, Zh, Zj, Zo, List.map_cons, List.map_nil, cond_true, cond_false, aop, Zv, Zq, Zp, ev, sput, Zt, Zy, Ya, unK, Zd, Zw, Nat.reduceBEq, Nat.reduceAdd, Int.reduceBEq, Int.reduceBNe, Int.reduceLT, Zu, Zz, tup, tyf, (hvT (Vp o i 0)).len]
    refine hN7 [(0, v), (2, .slice none 0 0), (3, .slice (some ⟨h.length, 0, none⟩) o.length o.length), (4, Zx (i : Nat)), (10, Zx o.length), (11, Zx (i : Nat)), (15, Zx o.length), (16, .int .i64 0)] _ _ ?_ (by simp (maxSteps := 2000000) only [↓Za, ↓Zm, ↓Zr, ↓Ze, ↓Zk, ↓Zs, ↓Zf, ↓Zi, ↓Zg, ↓Zc, ↓Zb, ↓vdn, vup, Zl, Zn, Zh, Zj, Zo, List.map_cons, List.map_nil, cond_true, cond_false, aop, Zv, Zq, Zp, ev, sput, Zt, Zy, Ya, unK, Zd, Zw, Nat.reduceBEq, Nat.reduceAdd, Int.reduceBEq, Int.reduceBNe, Int.reduceLT, Zu, Zz, tup, tyf])
    clear hN7
    try clear N7
    refine Yk ?_
    refine Yf fun Qa hQa => ?_
    refine Xt (γ := Nat) (fun j => j ≤ o.length) (fun j => ([(0, v), (2, .slice none 0 0), (3, .slice (some ⟨h.length, 0, none⟩) o.length o.length), (4, Zx (i : Nat)), (10, Zx o.length), (11, Zx (i : Nat)), (15, Zx o.length), (16, Zx (j : Nat))], h ++ [Blk.ints (Vp o i j) 3 false])) (fun j => o.length - j) 0 (Nat.zero_le _) (by simp (maxSteps := 2000000) only [↓Za, ↓Zm, ↓Zr, ↓Ze, ↓Zk, ↓Zs, ↓Zf, ↓Zi, ↓Zg, ↓Zc, ↓Zb, ↓vdn, vup, Zl, Zn, Zh, Zj, Zo, List.map_cons, List.map_nil, cond_true, cond_false, aop, Zv, Zq, Zp, ev, sput, Zt, Zy, Ya, unK, Zd, Zw, Nat.reduceBEq, Nat.reduceAdd, Int.reduceBEq, Int.reduceBNe, Int.reduceLT, Zu, Zz, tup, tyf, Int.natCast_zero]) rfl ?_
    rintro j hj
    refine Yf fun Qb hQb => ?_
    simp only [l47_0]
    by_cases hjin : (j : Int) < o.length
    · have hj' : j < o.length := by omega
      refine Yc fun N8 hN8 => ?_
      simp (maxSteps := 2000000) only [s47, ↓Za, ↓Zm, ↓Zr, ↓Ze, ↓Zk, ↓Zs, ↓Zf, ↓Zi, ↓Zg, ↓Zc, ↓Zb, ↓vdn, vup, Zl, Zn, Zh, Zj, Zo, List.map_cons, List.map_nil, cond_true, cond_false, aop, Zv, Zq, Zp, ev, sput, Zt, Zy, Ya, unK, Zd, Zw, Nat.reduceBEq, Nat.reduceAdd, Int.reduceBEq, Int.reduceBNe, Int.reduceLT, Zu, Zz, tup, tyf, hjin]
      refine hN8 [(0, v), (2, .slice none 0 0), (3, .slice (some ⟨h.length, 0, none⟩) o.length o.length), (4, Zx (i : Nat)), (10, Zx o.length), (11, Zx (i : Nat)), (15, Zx o.length), (16, Zx (j : Nat)), (17, .bool true)] _ _ ?_ (by simp (maxSteps := 2000000) only [↓Za, ↓Zm, ↓Zr, ↓Ze, ↓Zk, ↓Zs, ↓Zf, ↓Zi, ↓Zg, ↓Zc, ↓Zb, ↓vdn, vup, Zl, Zn, Zh, Zj, Zo, List.map_cons, List.map_nil, cond_true, cond_false, aop, Zv, Zq, Zp, ev, sput, Zt, Zy, Ya, unK, Zd, Zw, Nat.reduceBEq, Nat.reduceAdd, Int.reduceBEq, Int.reduceBNe, Int.reduceLT, Zu, Zz, tup, tyf])
      clear hN8
      try clear N8
      refine Yc fun N9 hN9 => ?_
      simp (maxSteps := 2000000) only [s47, ↓Za, ↓Zm, ↓Zr, ↓Ze, ↓Zk, ↓Zs, ↓Zf, ↓Zi, ↓Zg, ↓Zc, ↓Zb, ↓vdn, vup, Zl, Zn, Zh, Zj, Zo, List.map_cons, List.map_nil, cond_true, cond_false, aop, Zv, Zq, Zp, ev, sput, Zt, Zy, Ya, unK, Zd, Zw, Nat.reduceBEq, Nat.reduceAdd, Int.reduceBEq, Int.reduceBNe, Int.reduceLT, Zu, Zz, tup, tyf]
      refine hN9 [(0, v), (2, .slice none 0 0), (3, .slice (some ⟨h.length, 0, none⟩) o.length o.length), (4, Zx (i : Nat)), (10, Zx o.length), (11, Zx (i : Nat)), (15, Zx o.length), (16, Zx (j : Nat))] _ _ ?_ (by simp (maxSteps := 2000000) only [↓Za, ↓Zm, ↓Zr, ↓Ze, ↓Zk, ↓Zs, ↓Zf, ↓Zi, ↓Zg, ↓Zc, ↓Zb, ↓vdn, vup, Zl, Zn, Zh, Zj, Zo, List.map_cons, List.map_nil, cond_true, cond_false, aop, Zv, Zq, Zp, ev, sput, Zt, Zy, Ya, unK, Zd, Zw, Nat.reduceBEq, Nat.reduceAdd, Int.reduceBEq, Int.reduceBNe, Int.reduceLT, Zu, Zz, tup, tyf])
      clear hN9
      try clear N9
      refine Yh fun D hD => ?_
      refine Yk ?_
      refine Yc fun N10 hN10 => ?_
      simp (maxSteps := 2000000) only [s47, ↓Za, ↓Zm, ↓Zr, ↓Ze, ↓Zk, ↓Zs, ↓Zf, ↓Zi, ↓Zg, ↓Zc, ↓Zb, ↓vdn, vup, Zl, Zn, Zh, Zj, Zo, List.map_cons, List.map_nil, cond_true, cond_false, aop, Zv, Zq, Zp, ev, sput, Zt, Zy, Ya, unK, Zd, Zw, Nat.reduceBEq, Nat.reduceAdd, Int.reduceBEq, Int.reduceBNe, Int.reduceLT, Zu, Zz, tup, tyf]
      refine hN10 [(0, v), (2, .slice none 0 0), (3, .slice (some ⟨h.length, 0, none⟩) o.length o.length), (4, Zx (i : Nat)), (5, Zx (j : Nat)), (10, Zx o.length), (11, Zx (i : Nat)), (15, Zx o.length), (16, Zx (j : Nat))] _ _ ?_ (by simp (maxSteps := 2000000) only [↓Za, ↓Zm, ↓Zr, ↓Ze, ↓Zk, ↓Zs, ↓Zf, ↓Zi, ↓Zg, ↓Zc, ↓Zb, ↓vdn, vup, Zl, Zn, Zh, Zj, Zo, List.map_cons, List.map_nil, cond_true, cond_false, aop, Zv, Zq, Zp, ev, sput, Zt, Zy, Ya, unK, Zd, Zw, Nat.reduceBEq, Nat.reduceAdd, Int.reduceBEq, Int.reduceBNe, Int.reduceLT, Zu, Zz, tup, tyf])
      clear hN10
      try clear N10
      refine Yc fun N11 hN11 => ?_
      simp (maxSteps := 2000000) only [s47, ↓Za, ↓Zm, ↓Zr, ↓Ze, ↓Zk, ↓Zs, ↓Zf, ↓Zi, ↓Zg, ↓Zc, ↓Zb, ↓vdn, vup, Zl, Zn, Zh, Zj, Zo, List.map_cons, List.map_nil, cond_true, cond_false, aop, Zv, Zq, Zp, ev, sput, Zt, Zy, Ya, unK, Zd, Zw, Nat.reduceBEq, Nat.reduceAdd, Int.reduceBEq, Int.reduceBNe, Int.reduceLT, Zu, Zz, tup, tyf, Xf, List.nil_append, List.append_nil, List.toList_toArray, List.cons_append]
      refine (above_call (hvT (Vp o i j)) ho (i := i) (j := j) hi').mono ?_
      rintro _ _ ⟨rfl, rfl⟩
      refine hN11 [(0, v), (2, .slice none 0 0), (3, .slice (some ⟨h.length, 0, none⟩) o.length o.length), (4, Zx (i : Nat)), (5, Zx (j : Nat)), (10, Zx o.length), (11, Zx (i : Nat)), (15, Zx o.length), (16, Zx (j : Nat)), (22, .bool (ab o i j))] _ _ ?_ (by simp (maxSteps := 2000000) only [↓Za, ↓Zm, ↓Zr, ↓Ze, ↓Zk, ↓Zs, ↓Zf, ↓Zi, ↓Zg, ↓Zc, ↓Zb, ↓vdn, vup, Zl, Zn, Zh, Zj, Zo, List.map_cons, List.map_nil, cond_true, cond_false, aop, Zv, Zq, Zp, ev, sput, Zt, Zy, Ya, unK, Zd, Zw, Nat.reduceBEq, Nat.reduceAdd, Int.reduceBEq, Int.reduceBNe, Int.reduceLT, Zu, Zz, tup, tyf])
      clear hN11
      try clear N11
      cases hab : ab o i j with
      | true =>
        have hset2 := turnT_set hj' hab
        have hg := turnT_get (o := o) (i := i) (j := j) hj'
        rw [if_neg (Nat.lt_irrefl j)] at hg
        have hor : Wm .or .i64 ((dnTo o j i : Nat) : Int) (2 ^ i) = ((dnTo o j i ||| 2 ^ i : Nat) : Int) := by
          have h1 := dnTo_lt o j i
          have h2 : (2 : Nat) ^ i ≤ 2 ^ 6 := Nat.pow_le_pow_right (by decide) (by omega)
          have := bitsV_or (a := dnTo o j i) (b := 2 ^ i) (by omega) (by omega)
          rw [Wt] at this; exact this
        have hjT : j < (Vp o i j).length := by rw [turnT_len]; exact hj'
        refine Wu rfl ?_
        refine Yl ?_
        simp only [q47_9]
        refine Xx [] (by kernel_rfl) (by kernel_rfl) (by kernel_rfl) (by kernel_rfl) ?_
        simp (maxSteps := 2000000) only [s47, ↓Za, ↓Zm, ↓Zr, ↓Ze, ↓Zk, ↓Zs, ↓Zf, ↓Zi, ↓Zg, ↓Zc, ↓Zb, ↓vdn, vup, Zl, Zn, Zh, Zj, Zo, List.map_cons, List.map_nil, cond_true, cond_false, aop, Zv, Zq, Zp, ev, sput, Zt, Zy, Ya, unK, Zd, Zw, Nat.reduceBEq, Nat.reduceAdd, Int.reduceBEq, Int.reduceBNe, Int.reduceLT, Zu, Zz, tup, tyf, idxS Wk Xs hj', loadX (hnew (Vp o i j)) Xb hjT, hg, shl1 (show i ≤ 62 by omega), hor, Int.natCast_nonneg, storeBI (hnew (Vp o i j)) Xb hjT, hset, hset2]
        refine hD [(0, v), (2, .slice none 0 0), (3, .slice (some ⟨h.length, 0, none⟩) o.length o.length), (4, Zx (i : Nat)), (10, Zx o.length), (11, Zx (i : Nat)), (15, Zx o.length), (16, Zx (j : Nat))] _ _ ?_ (by simp (maxSteps := 2000000) only [↓Za, ↓Zm, ↓Zr, ↓Ze, ↓Zk, ↓Zs, ↓Zf, ↓Zi, ↓Zg, ↓Zc, ↓Zb, ↓vdn, vup, Zl, Zn, Zh, Zj, Zo, List.map_cons, List.map_nil, cond_true, cond_false, aop, Zv, Zq, Zp, ev, sput, Zt, Zy, Ya, unK, Zd, Zw, Nat.reduceBEq, Nat.reduceAdd, Int.reduceBEq, Int.reduceBNe, Int.reduceLT, Zu, Zz, tup, tyf])
        clear hD
        try clear D
        refine Yl ?_
        simp (maxSteps := 2000000) only [s47, ↓Za, ↓Zm, ↓Zr, ↓Ze, ↓Zk, ↓Zs, ↓Zf, ↓Zi, ↓Zg, ↓Zc, ↓Zb, ↓vdn, vup, Zl, Zn, Zh, Zj, Zo, List.map_cons, List.map_nil, cond_true, cond_false, aop, Zv, Zq, Zp, ev, sput, Zt, Zy, Ya, unK, Zd, Zw, Nat.reduceBEq, Nat.reduceAdd, Int.reduceBEq, Int.reduceBNe, Int.reduceLT, Zu, Zz, tup, tyf, add1 (show j < 9223372036854775807 by omega)]
        exact hQb _ _ _ ⟨j + 1, hj', by omega, by simp (maxSteps := 2000000) only [↓Za, ↓Zm, ↓Zr, ↓Ze, ↓Zk, ↓Zs, ↓Zf, ↓Zi, ↓Zg, ↓Zc, ↓Zb, ↓vdn, vup, Zl, Zn, Zh, Zj, Zo, List.map_cons, List.map_nil, cond_true, cond_false, aop, Zv, Zq, Zp, ev, sput, Zt, Zy, Ya, unK, Zd, Zw, Nat.reduceBEq, Nat.reduceAdd, Int.reduceBEq, Int.reduceBNe, Int.reduceLT, Zu, Zz, tup, tyf], rfl⟩
      | false =>
        rw [← turnT_skip hab]
        refine Xy rfl ?_
        refine Yl ?_
        simp (maxSteps := 2000000) only [s47, ↓Za, ↓Zm, ↓Zr, ↓Ze, ↓Zk, ↓Zs, ↓Zf, ↓Zi, ↓Zg, ↓Zc, ↓Zb, ↓vdn, vup, Zl, Zn, Zh, Zj, Zo, List.map_cons, List.map_nil, cond_true, cond_false, aop, Zv, Zq, Zp, ev, sput, Zt, Zy, Ya, unK, Zd, Zw, Nat.reduceBEq, Nat.reduceAdd, Int.reduceBEq, Int.reduceBNe, Int.reduceLT, Zu, Zz, tup, tyf]
        refine hD [(0, v), (2, .slice none 0 0), (3, .slice (some ⟨h.length, 0, none⟩) o.length o.length), (4, Zx (i : Nat)), (10, Zx o.length), (11, Zx (i : Nat)), (15, Zx o.length), (16, Zx (j : Nat))] _ _ ?_ (by simp (maxSteps := 2000000) only [↓Za, ↓Zm, ↓Zr, ↓Ze, ↓Zk, ↓Zs, ↓Zf, ↓Zi, ↓Zg, ↓Zc, ↓Zb, ↓vdn, vup, Zl, Zn, Zh, Zj, Zo, List.map_cons, List.map_nil, cond_true, cond_false, aop, Zv, Zq, Zp, ev, sput, Zt, Zy, Ya, unK, Zd, Zw, Nat.reduceBEq, Nat.reduceAdd, Int.reduceBEq, Int.reduceBNe, Int.reduceLT, Zu, Zz, tup, tyf])
        clear hD
        try clear D
        refine Yl ?_
        simp (maxSteps := 2000000) only [s47, ↓Za, ↓Zm, ↓Zr, ↓Ze, ↓Zk, ↓Zs, ↓Zf, ↓Zi, ↓Zg, ↓Zc, ↓Zb, ↓vdn, vup, Zl, Zn, Zh, Zj, Zo, List.map_cons, List.map_nil, cond_true, cond_false, aop, Zv, Zq, Zp, ev, sput, Zt, Zy, Ya, unK, Zd, Zw, Nat.reduceBEq, Nat.reduceAdd, Int.reduceBEq, Int.reduceBNe, Int.reduceLT, Zu, Zz, tup, tyf, add1 (show j < 9223372036854775807 by omega)]
        exact hQb _ _ _ ⟨j + 1, hj', by omega, by simp (maxSteps := 2000000) only [↓Za, ↓Zm, ↓Zr, ↓Ze, ↓Zk, ↓Zs, ↓Zf, ↓Zi, ↓Zg, ↓Zc, ↓Zb, ↓vdn, vup, Zl, Zn, Zh, Zj, Zo, List.map_cons, List.map_nil, cond_true, cond_false, aop, Zv, Zq, Zp, ev, sput, Zt, Zy, Ya, unK, Zd, Zw, Nat.reduceBEq, Nat.reduceAdd, Int.reduceBEq, Int.reduceBNe, Int.reduceLT, Zu, Zz, tup, tyf], rfl⟩
    · obtain rfl : j = o.length := by omega
      refine Yc fun N12 hN12 => ?_
      simp (maxSteps := 2000000) only [s47, ↓Za, ↓Zm, ↓Zr, ↓Ze, ↓Zk, ↓Zs, ↓Zf, ↓Zi, ↓Zg, ↓Zc, ↓Zb, ↓vdn, vup, Zl, Zn, Zh, Zj, Zo, List.map_cons, List.map_nil, cond_true, cond_false, aop, Zv, Zq, Zp, ev, sput, Zt, Zy, Ya, unK, Zd, Zw, Nat.reduceBEq, Nat.reduceAdd, Int.reduceBEq, Int.reduceBNe, Int.reduceLT, Zu, Zz, tup, tyf, hjin]
      refine hN12 [(0, v), (2, .slice none 0 0), (3, .slice (some ⟨h.length, 0, none⟩) o.length o.length), (4, Zx (i : Nat)), (10, Zx o.length), (11, Zx (i : Nat)), (15, Zx o.length), (16, Zx o.length), (17, .bool false)] _ _ ?_ (by simp (maxSteps := 2000000) only [↓Za, ↓Zm, ↓Zr, ↓Ze, ↓Zk, ↓Zs, ↓Zf, ↓Zi, ↓Zg, ↓Zc, ↓Zb, ↓vdn, vup, Zl, Zn, Zh, Zj, Zo, List.map_cons, List.map_nil, cond_true, cond_false, aop, Zv, Zq, Zp, ev, sput, Zt, Zy, Ya, unK, Zd, Zw, Nat.reduceBEq, Nat.reduceAdd, Int.reduceBEq, Int.reduceBNe, Int.reduceLT, Zu, Zz, tup, tyf])
      clear hN12
      try clear N12
      refine Yc fun N13 hN13 => ?_
      simp (maxSteps := 2000000) only [s47, ↓Za, ↓Zm, ↓Zr, ↓Ze, ↓Zk, ↓Zs, ↓Zf, ↓Zi, ↓Zg, ↓Zc, ↓Zb, ↓vdn, vup, Zl, Zn, Zh, Zj, Zo, List.map_cons, List.map_nil, cond_true, cond_false, aop, Zv, Zq, Zp, ev, sput, Zt, Zy, Ya, unK, Zd, Zw, Nat.reduceBEq, Nat.reduceAdd, Int.reduceBEq, Int.reduceBNe, Int.reduceLT, Zu, Zz, tup, tyf]
      refine hQb _ _ _ (hQa _ _ _ ?_)
      simp (maxSteps := 2000000) only [s47, ↓Za, ↓Zm, ↓Zr, ↓Ze, ↓Zk, ↓Zs, ↓Zf, ↓Zi, ↓Zg, ↓Zc, ↓Zb, ↓vdn, vup, Zl, Zn, Zh, Zj, Zo, List.map_cons, List.map_nil, cond_true, cond_false, aop, Zv, Zq, Zp, ev, sput, Zt, Zy, Ya, unK, Zd, Zw, Nat.reduceBEq, Nat.reduceAdd, Int.reduceBEq, Int.reduceBNe, Int.reduceLT, Zu, Zz, tup, tyf, if_true]
      rw [turnT_next]
      refine hB [(0, v), (2, .slice none 0 0), (3, .slice (some ⟨h.length, 0, none⟩) o.length o.length), (10, Zx o.length), (11, Zx (i : Nat))] _ _ ?_ (by simp (maxSteps := 2000000) only [↓Za, ↓Zm, ↓Zr, ↓Ze, ↓Zk, ↓Zs, ↓Zf, ↓Zi, ↓Zg, ↓Zc, ↓Zb, ↓vdn, vup, Zl, Zn, Zh, Zj, Zo, List.map_cons, List.map_nil, cond_true, cond_false, aop, Zv, Zq, Zp, ev, sput, Zt, Zy, Ya, unK, Zd, Zw, Nat.reduceBEq, Nat.reduceAdd, Int.reduceBEq, Int.reduceBNe, Int.reduceLT, Zu, Zz, tup, tyf])
      clear hB
      try clear B
      refine Yl ?_
      simp (maxSteps := 2000000) only [s47, ↓Za, ↓Zm, ↓Zr, ↓Ze, ↓Zk, ↓Zs, ↓Zf, ↓Zi, ↓Zg, ↓Zc, ↓Zb, ↓vdn, vup, Zl, Zn, Zh, Zj, Zo, List.map_cons, List.map_nil, cond_true, cond_false, aop, Zv, Zq, Zp, ev, sput, Zt, Zy, Ya, unK, Zd, Zw, Nat.reduceBEq, Nat.reduceAdd, Int.reduceBEq, Int.reduceBNe, Int.reduceLT, Zu, Zz, tup, tyf, add1 (show i < 9223372036854775807 by omega)]
      exact hQ2 _ _ _ ⟨i + 1, hi', by omega, by simp (maxSteps := 2000000) only [↓Za, ↓Zm, ↓Zr, ↓Ze, ↓Zk, ↓Zs, ↓Zf, ↓Zi, ↓Zg, ↓Zc, ↓Zb, ↓vdn, vup, Zl, Zn, Zh, Zj, Zo, List.map_cons, List.map_nil, cond_true, cond_false, aop, Zv, Zq, Zp, ev, sput, Zt, Zy, Ya, unK, Zd, Zw, Nat.reduceBEq, Nat.reduceAdd, Int.reduceBEq, Int.reduceBNe, Int.reduceLT, Zu, Zz, tup, tyf], rfl⟩
  · obtain rfl : i = o.length := by omega
    refine Yc fun N14 hN14 => ?_
    simp (maxSteps := 2000000) only [s47, ↓Za, ↓Zm, ↓Zr, ↓Ze, ↓Zk, ↓Zs, ↓Zf, ↓Zi, ↓Zg, ↓Zc, ↓Zb, ↓vdn, vup, Zl, Zn, Zh, Zj, Zo, List.map_cons, List.map_nil, cond_true, cond_false, aop, Zv, Zq, Zp, ev, sput, Zt, Zy, Ya, unK, Zd, Zw, Nat.reduceBEq, Nat.reduceAdd, Int.reduceBEq, Int.reduceBNe, Int.reduceLT, Zu, Zz, tup, tyf, hin]
    refine hN14 [(0, v), (2, .slice none 0 0), (3, .slice (some ⟨h.length, 0, none⟩) o.length o.length), (10, Zx o.length), (11, Zx o.length), (12, .bool false)] _ _ ?_ (by simp (maxSteps := 2000000) only [↓Za, ↓Zm, ↓Zr, ↓Ze, ↓Zk, ↓Zs, ↓Zf, ↓Zi, ↓Zg, ↓Zc, ↓Zb, ↓vdn, vup, Zl, Zn, Zh, Zj, Zo, List.map_cons, List.map_nil, cond_true, cond_false, aop, Zv, Zq, Zp, ev, sput, Zt, Zy, Ya, unK, Zd, Zw, Nat.reduceBEq, Nat.reduceAdd, Int.reduceBEq, Int.reduceBNe, Int.reduceLT, Zu, Zz, tup, tyf])
    clear hN14
    try clear N14
    refine Yc fun N15 hN15 => ?_
    simp (maxSteps := 2000000) only [s47, ↓Za, ↓Zm, ↓Zr, ↓Ze, ↓Zk, ↓Zs, ↓Zf, ↓Zi, ↓Zg, ↓Zc, ↓Zb, ↓vdn, vup, Zl, Zn, Zh, Zj, Zo, List.map_cons, List.map_nil, cond_true, cond_false, aop, Zv, Zq, Zp, ev, sput, Zt, Zy, Ya, unK, Zd, Zw, Nat.reduceBEq, Nat.reduceAdd, Int.reduceBEq, Int.reduceBNe, Int.reduceLT, Zu, Zz, tup, tyf]
    refine hQ2 _ _ _ (hQ _ _ _ ?_)
    simp (maxSteps := 2000000) only [s47, ↓Za, ↓Zm, ↓Zr, ↓Ze, ↓Zk, ↓Zs, ↓Zf, ↓Zi, ↓Zg, ↓Zc, ↓Zb, ↓vdn, vup, Zl, Zn, Zh, Zj, Zo, List.map_cons, List.map_nil, cond_true, cond_false, aop, Zv, Zq, Zp, ev, sput, Zt, Zy, Ya, unK, Zd, Zw, Nat.reduceBEq, Nat.reduceAdd, Int.reduceBEq, Int.reduceBNe, Int.reduceLT, Zu, Zz, tup, tyf, if_true]
    rw [turnT_all]
    refine hZ [(0, v), (2, .slice none 0 0), (3, .slice (some ⟨h.length, 0, none⟩) o.length o.length)] _ _ ?_ (by simp (maxSteps := 2000000) only [↓Za, ↓Zm, ↓Zr, ↓Ze, ↓Zk, ↓Zs, ↓Zf, ↓Zi, ↓Zg, ↓Zc, ↓Zb, ↓vdn, vup, Zl, Zn, Zh, Zj, Zo, List.map_cons, List.map_nil, cond_true, cond_false, aop, Zv, Zq, Zp, ev, sput, Zt, Zy, Ya, unK, Zd, Zw, Nat.reduceBEq, Nat.reduceAdd, Int.reduceBEq, Int.reduceBNe, Int.reduceLT, Zu, Zz, tup, tyf])
    clear hZ
    try clear Z
    refine Yl ?_
    simp (maxSteps := 2000000) only [s47, ↓Za, ↓Zm, ↓Zr, ↓Ze, ↓Zk, ↓Zs, ↓Zf, ↓Zi, ↓Zg, ↓Zc, ↓Zb, ↓vdn, vup, Zl, Zn, Zh, Zj, Zo, List.map_cons, List.map_nil, cond_true, cond_false, aop, Zv, Zq, Zp, ev, sput, Zt, Zy, Ya, unK, Zd, Zw, Nat.reduceBEq, Nat.reduceAdd, Int.reduceBEq, Int.reduceBNe, Int.reduceLT, Zu, Zz, tup, tyf]
    exact ⟨intSl_tab h.length (by simp [turnL]) (hnew _), Ext.app _ _ _⟩

/-- What a function that hands back ints says. -/
def IntsIs (o : List Int) (xs : List Int) (h' : Yb) (x : Value) (e : Int) : Prop := if ord o = true then e = 0 ∧ IntSl h' x xs else x = .slice none 0 0 ∧ e = 2
theorem s45_callW [Tabs Tryd.prog] {args : List Value} {h : Yb} {Q : Value → Yb → Prop} (hsz : args.length ≤ 28) (hk : AWS Tryd.prog 28 s45 (Zu Tryd.prog [.tmp 2, .tmp 3] Q) (Zp 0 args) h) : ACall Tryd.prog 45 args h Q :=
  acall_w Tryd.func45 rfl (enters_of Tryd.func45 (by kernel_rfl) rfl) rfl rfl (by decide) s45_strip s45_ok hsz hk
theorem turn_call [BitTab prog 1] {h : Yb} {v : Value} {o : List Int} (hv : IntSl h v o) (hl : o.length < 9223372036854775808) (hx : ∀ x ∈ o, -9223372036854775808 ≤ x ∧ x < 9223372036854775808) :
    ACall prog 45 [v] h fun r h' => Ext (fun _ => False) h h' ∧ ∃ x e, r = .tuple #[x, .int .i64 e] ∧ IntsIs o (turnL o) h' x e := by
  refine s45_callW (by simp) ?_
  simp only [s45]
  refine Yc fun N16 hN16 => ?_
  simp (maxSteps := 2000000) only [s45, ↓Za, ↓Zm, ↓Zr, ↓Ze, ↓Zk, ↓Zs, ↓Zf, ↓Zi, ↓Zg, ↓Zc, ↓Zb, ↓vdn, vup, Zl, Zn, Zh, Zj, Zo, List.map_cons, List.map_nil, cond_true, cond_false, aop, Zv, Zq, Zp, ev, sput, Zt, Zy, Ya, unK, Zd, Zw, Nat.reduceBEq, Nat.reduceAdd, Int.reduceBEq, Int.reduceBNe, Int.reduceLT, Zu, Zz, tup, tyf]
  refine hN16 [(0, v), (2, .slice none 0 0), (3, .int .i64 0)] _ _ ?_ (by simp (maxSteps := 2000000) only [↓Za, ↓Zm, ↓Zr, ↓Ze, ↓Zk, ↓Zs, ↓Zf, ↓Zi, ↓Zg, ↓Zc, ↓Zb, ↓vdn, vup, Zl, Zn, Zh, Zj, Zo, List.map_cons, List.map_nil, cond_true, cond_false, aop, Zv, Zq, Zp, ev, sput, Zt, Zy, Ya, unK, Zd, Zw, Nat.reduceBEq, Nat.reduceAdd, Int.reduceBEq, Int.reduceBNe, Int.reduceLT, Zu, Zz, tup, tyf])
  clear hN16
  try clear N16
  refine Yc fun N17 hN17 => ?_
  simp (maxSteps := 2000000) only [s45, ↓Za, ↓Zm, ↓Zr, ↓Ze, ↓Zk, ↓Zs, ↓Zf, ↓Zi, ↓Zg, ↓Zc, ↓Zb, ↓vdn, vup, Zl, Zn, Zh, Zj, Zo, List.map_cons, List.map_nil, cond_true, cond_false, aop, Zv, Zq, Zp, ev, sput, Zt, Zy, Ya, unK, Zd, Zw, Nat.reduceBEq, Nat.reduceAdd, Int.reduceBEq, Int.reduceBNe, Int.reduceLT, Zu, Zz, tup, tyf, Xf, List.nil_append, List.append_nil, List.toList_toArray, List.cons_append]
  refine (read_call hv hl hx).mono ?_
  rintro _ g ⟨rfl, rfl⟩
  simp (maxSteps := 2000000) only [s45, ↓Za, ↓Zm, ↓Zr, ↓Ze, ↓Zk, ↓Zs, ↓Zf, ↓Zi, ↓Zg, ↓Zc, ↓Zb, ↓vdn, vup, Zl, Zn, Zh, Zj, Zo, List.map_cons, List.map_nil, cond_true, cond_false, aop, Zv, Zq, Zp, ev, sput, Zt, Zy, Ya, unK, Zd, Zw, Nat.reduceBEq, Nat.reduceAdd, Int.reduceBEq, Int.reduceBNe, Int.reduceLT, Zu, Zz, tup, tyf, We, Xg, zeroN, zero_77]
  rw [storeRd]
  obtain ⟨hE, hb⟩ := rdBox g o
  generalize hgl : g.length = gl at hE hb ⊢
  generalize (g ++ [Blk.cells (ordN 0) 77 false]).set gl (.cells (rdC o) 77 false) = G at hE hb ⊢
  refine hN17 [(2, .slice none 0 0), (3, .int .i64 0), (4, .pointer (some ⟨gl, 0, none⟩)), (5, .bool (ord o))] _ _ ?_ (by simp (maxSteps := 2000000) only [↓Za, ↓Zm, ↓Zr, ↓Ze, ↓Zk, ↓Zs, ↓Zf, ↓Zi, ↓Zg, ↓Zc, ↓Zb, ↓vdn, vup, Zl, Zn, Zh, Zj, Zo, List.map_cons, List.map_nil, cond_true, cond_false, aop, Zv, Zq, Zp, ev, sput, Zt, Zy, Ya, unK, Zd, Zw, Nat.reduceBEq, Nat.reduceAdd, Int.reduceBEq, Int.reduceBNe, Int.reduceLT, Zu, Zz, tup, tyf])
  clear hN17
  try clear N17
  refine Yh fun M hM => ?_
  cases ho : ord o with
  | false =>
    refine Yc fun N18 hN18 => ?_
    simp (maxSteps := 2000000) only [s45, ↓Za, ↓Zm, ↓Zr, ↓Ze, ↓Zk, ↓Zs, ↓Zf, ↓Zi, ↓Zg, ↓Zc, ↓Zb, ↓vdn, vup, Zl, Zn, Zh, Zj, Zo, List.map_cons, List.map_nil, cond_true, cond_false, aop, Zv, Zq, Zp, ev, sput, Zt, Zy, Ya, unK, Zd, Zw, Nat.reduceBEq, Nat.reduceAdd, Int.reduceBEq, Int.reduceBNe, Int.reduceLT, Zu, Zz, tup, tyf, Bool.not_false]
    refine hN18 [(2, .slice none 0 0), (3, .int .i64 0), (4, .pointer (some ⟨gl, 0, none⟩)), (5, .bool false), (14, .bool true)] _ _ ?_ (by simp (maxSteps := 2000000) only [↓Za, ↓Zm, ↓Zr, ↓Ze, ↓Zk, ↓Zs, ↓Zf, ↓Zi, ↓Zg, ↓Zc, ↓Zb, ↓vdn, vup, Zl, Zn, Zh, Zj, Zo, List.map_cons, List.map_nil, cond_true, cond_false, aop, Zv, Zq, Zp, ev, sput, Zt, Zy, Ya, unK, Zd, Zw, Nat.reduceBEq, Nat.reduceAdd, Int.reduceBEq, Int.reduceBNe, Int.reduceLT, Zu, Zz, tup, tyf])
    clear hN18
    try clear N18
    refine Wu rfl ?_
    refine Yl ?_
    simp (maxSteps := 2000000) only [s45, ↓Za, ↓Zm, ↓Zr, ↓Ze, ↓Zk, ↓Zs, ↓Zf, ↓Zi, ↓Zg, ↓Zc, ↓Zb, ↓vdn, vup, Zl, Zn, Zh, Zj, Zo, List.map_cons, List.map_nil, cond_true, cond_false, aop, Zv, Zq, Zp, ev, sput, Zt, Zy, Ya, unK, Zd, Zw, Nat.reduceBEq, Nat.reduceAdd, Int.reduceBEq, Int.reduceBNe, Int.reduceLT, Zu, Zz, tup, tyf]
    exact ⟨hE, _, _, rfl, by rw [IntsIs, ho]; exact ⟨rfl, rfl⟩⟩
  | true =>
    have hln := Xk ho
    have hrd : rdC o = Ww o := if_pos hln
    rw [hrd] at hb
    have f4 : ∀ {K : Value → Prop}, Xh prog 77 (.pointer (some ⟨gl, 0, none⟩)) 0 K = K (.pointer (some ⟨gl, 0, none⟩)) := fun {K} => by
      simp [Xh, fld_77_0, Xs]
    have hgG := Yn hb
    have hgg := hE.1
    refine Yc fun N19 hN19 => ?_
    simp (maxSteps := 2000000) only [s45, ↓Za, ↓Zm, ↓Zr, ↓Ze, ↓Zk, ↓Zs, ↓Zf, ↓Zi, ↓Zg, ↓Zc, ↓Zb, ↓vdn, vup, Zl, Zn, Zh, Zj, Zo, List.map_cons, List.map_nil, cond_true, cond_false, aop, Zv, Zq, Zp, ev, sput, Zt, Zy, Ya, unK, Zd, Zw, Nat.reduceBEq, Nat.reduceAdd, Int.reduceBEq, Int.reduceBNe, Int.reduceLT, Zu, Zz, tup, tyf, Bool.not_true]
    refine hN19 [(2, .slice none 0 0), (3, .int .i64 0), (4, .pointer (some ⟨gl, 0, none⟩)), (5, .bool true), (14, .bool false)] _ _ ?_ (by simp (maxSteps := 2000000) only [↓Za, ↓Zm, ↓Zr, ↓Ze, ↓Zk, ↓Zs, ↓Zf, ↓Zi, ↓Zg, ↓Zc, ↓Zb, ↓vdn, vup, Zl, Zn, Zh, Zj, Zo, List.map_cons, List.map_nil, cond_true, cond_false, aop, Zv, Zq, Zp, ev, sput, Zt, Zy, Ya, unK, Zd, Zw, Nat.reduceBEq, Nat.reduceAdd, Int.reduceBEq, Int.reduceBNe, Int.reduceLT, Zu, Zz, tup, tyf])
    clear hN19
    try clear N19
    refine Xy rfl ?_
    refine Yl ?_
    simp (maxSteps := 2000000) only [s45, ↓Za, ↓Zm, ↓Zr, ↓Ze, ↓Zk, ↓Zs, ↓Zf, ↓Zi, ↓Zg, ↓Zc, ↓Zb, ↓vdn, vup, Zl, Zn, Zh, Zj, Zo, List.map_cons, List.map_nil, cond_true, cond_false, aop, Zv, Zq, Zp, ev, sput, Zt, Zy, Ya, unK, Zd, Zw, Nat.reduceBEq, Nat.reduceAdd, Int.reduceBEq, Int.reduceBNe, Int.reduceLT, Zu, Zz, tup, tyf]
    refine hM [(2, .slice none 0 0), (3, .int .i64 0), (4, .pointer (some ⟨gl, 0, none⟩)), (5, .bool true)] _ _ ?_ (by simp (maxSteps := 2000000) only [↓Za, ↓Zm, ↓Zr, ↓Ze, ↓Zk, ↓Zs, ↓Zf, ↓Zi, ↓Zg, ↓Zc, ↓Zb, ↓vdn, vup, Zl, Zn, Zh, Zj, Zo, List.map_cons, List.map_nil, cond_true, cond_false, aop, Zv, Zq, Zp, ev, sput, Zt, Zy, Ya, unK, Zd, Zw, Nat.reduceBEq, Nat.reduceAdd, Int.reduceBEq, Int.reduceBNe, Int.reduceLT, Zu, Zz, tup, tyf])
    clear hM
    try clear M
    refine Yc fun N20 hN20 => ?_
    simp (maxSteps := 2000000) only [s45, ↓Za, ↓Zm, ↓Zr, ↓Ze, ↓Zk, ↓Zs, ↓Zf, ↓Zi, ↓Zg, ↓Zc, ↓Zb, ↓vdn, vup, Zl, Zn, Zh, Zj, Zo, List.map_cons, List.map_nil, cond_true, cond_false, aop, Zv, Zq, Zp, ev, sput, Zt, Zy, Ya, unK, Zd, Zw, Nat.reduceBEq, Nat.reduceAdd, Int.reduceBEq, Int.reduceBNe, Int.reduceLT, Zu, Zz, tup, tyf]
    refine hN20 [(2, .slice none 0 0), (3, .int .i64 0), (4, .pointer (some ⟨gl, 0, none⟩)), (5, .bool true), (6, .slice none 0 0)] _ _ ?_ (by simp (maxSteps := 2000000) only [↓Za, ↓Zm, ↓Zr, ↓Ze, ↓Zk, ↓Zs, ↓Zf, ↓Zi, ↓Zg, ↓Zc, ↓Zb, ↓vdn, vup, Zl, Zn, Zh, Zj, Zo, List.map_cons, List.map_nil, cond_true, cond_false, aop, Zv, Zq, Zp, ev, sput, Zt, Zy, Ya, unK, Zd, Zw, Nat.reduceBEq, Nat.reduceAdd, Int.reduceBEq, Int.reduceBNe, Int.reduceLT, Zu, Zz, tup, tyf])
    clear hN20
    try clear N20
    refine Yh fun Z hZ => ?_
    refine Yc fun N21 hN21 => ?_
    simp (maxSteps := 2000000) only [s45, ↓Za, ↓Zm, ↓Zr, ↓Ze, ↓Zk, ↓Zs, ↓Zf, ↓Zi, ↓Zg, ↓Zc, ↓Zb, ↓vdn, vup, Zl, Zn, Zh, Zj, Zo, List.map_cons, List.map_nil, cond_true, cond_false, aop, Zv, Zq, Zp, ev, sput, Zt, Zy, Ya, unK, Zd, Zw, Nat.reduceBEq, Nat.reduceAdd, Int.reduceBEq, Int.reduceBNe, Int.reduceLT, Zu, Zz, tup, tyf, f4, loadN hb Xb]
    refine hN21 [(2, .slice none 0 0), (3, .int .i64 0), (4, .pointer (some ⟨gl, 0, none⟩)), (5, .bool true), (6, .slice none 0 0), (16, Zx o.length), (17, .int .i64 0)] _ _ ?_ (by simp (maxSteps := 2000000) only [↓Za, ↓Zm, ↓Zr, ↓Ze, ↓Zk, ↓Zs, ↓Zf, ↓Zi, ↓Zg, ↓Zc, ↓Zb, ↓vdn, vup, Zl, Zn, Zh, Zj, Zo, List.map_cons, List.map_nil, cond_true, cond_false, aop, Zv, Zq, Zp, ev, sput, Zt, Zy, Ya, unK, Zd, Zw, Nat.reduceBEq, Nat.reduceAdd, Int.reduceBEq, Int.reduceBNe, Int.reduceLT, Zu, Zz, tup, tyf])
    clear hN21
    try clear N21
    refine Yk ?_
    refine Yf fun Q hQ => ?_
    refine Xt (γ := Nat × Value × Yb) (fun s => s.1 ≤ o.length ∧ OwnSl 3 s.2.2 s.2.1 ((List.range s.1).map fun i => ((dn o i : Nat) : Int)) ∧ Ext (fun _ => False) G s.2.2 ∧ ∀ b, Yd s.2.1 = some b → G.length ≤ b)
      (fun s => ([(2, .slice none 0 0), (3, .int .i64 0), (4, .pointer (some ⟨gl, 0, none⟩)), (5, .bool true), (6, s.2.1), (16, Zx o.length), (17, Zx (s.1 : Nat))], s.2.2)) (fun s => o.length - s.1) (0, .slice none 0 0, G) ⟨Nat.zero_le _, .inl ⟨rfl, rfl⟩, Ext.refl _ _, fun b hb => by cases hb⟩ (by simp (maxSteps := 2000000) only [↓Za, ↓Zm, ↓Zr, ↓Ze, ↓Zk, ↓Zs, ↓Zf, ↓Zi, ↓Zg, ↓Zc, ↓Zb, ↓vdn, vup, Zl, Zn, Zh, Zj, Zo, List.map_cons, List.map_nil, cond_true, cond_false, aop, Zv, Zq, Zp, ev, sput, Zt, Zy, Ya, unK, Zd, Zw, Nat.reduceBEq, Nat.reduceAdd, Int.reduceBEq, Int.reduceBNe, Int.reduceLT, Zu, Zz, tup, tyf, Int.natCast_zero]) rfl ?_
    rintro ⟨s, w, H⟩ ⟨hs, how, hEH, hbw⟩
    simp only at hs how hEH hbw
    refine Yf fun Q2 hQ2 => ?_
    simp only [l45_0]
    by_cases hin : (s : Int) < o.length
    · have hs' : s < o.length := by omega
      have hbH := (hEH.2 _ hgG id).trans hb
      have hnx : ((List.range (s + 1)).map fun i => ((dn o i : Nat) : Int)) = ((List.range s).map fun i => ((dn o i : Nat) : Int)) ++ [((dn o s : Nat) : Int)] := by rw [List.range_succ, List.map_append]; rfl
      refine Yc fun N22 hN22 => ?_
      simp (maxSteps := 2000000) only [s45, ↓Za, ↓Zm, ↓Zr, ↓Ze, ↓Zk, ↓Zs, ↓Zf, ↓Zi, ↓Zg, ↓Zc, ↓Zb, ↓vdn, vup, Zl, Zn, Zh, Zj, Zo, List.map_cons, List.map_nil, cond_true, cond_false, aop, Zv, Zq, Zp, ev, sput, Zt, Zy, Ya, unK, Zd, Zw, Nat.reduceBEq, Nat.reduceAdd, Int.reduceBEq, Int.reduceBNe, Int.reduceLT, Zu, Zz, tup, tyf, hin]
      refine hN22 [(2, .slice none 0 0), (3, .int .i64 0), (4, .pointer (some ⟨gl, 0, none⟩)), (5, .bool true), (6, w), (16, Zx o.length), (17, Zx (s : Nat)), (18, .bool true)] _ _ ?_ (by simp (maxSteps := 2000000) only [↓Za, ↓Zm, ↓Zr, ↓Ze, ↓Zk, ↓Zs, ↓Zf, ↓Zi, ↓Zg, ↓Zc, ↓Zb, ↓vdn, vup, Zl, Zn, Zh, Zj, Zo, List.map_cons, List.map_nil, cond_true, cond_false, aop, Zv, Zq, Zp, ev, sput, Zt, Zy, Ya, unK, Zd, Zw, Nat.reduceBEq, Nat.reduceAdd, Int.reduceBEq, Int.reduceBNe, Int.reduceLT, Zu, Zz, tup, tyf])
      clear hN22
      try clear N22
      refine Yc fun N23 hN23 => ?_
      simp (maxSteps := 2000000) only [s45, ↓Za, ↓Zm, ↓Zr, ↓Ze, ↓Zk, ↓Zs, ↓Zf, ↓Zi, ↓Zg, ↓Zc, ↓Zb, ↓vdn, vup, Zl, Zn, Zh, Zj, Zo, List.map_cons, List.map_nil, cond_true, cond_false, aop, Zv, Zq, Zp, ev, sput, Zt, Zy, Ya, unK, Zd, Zw, Nat.reduceBEq, Nat.reduceAdd, Int.reduceBEq, Int.reduceBNe, Int.reduceLT, Zu, Zz, tup, tyf]
      refine hN23 [(2, .slice none 0 0), (3, .int .i64 0), (4, .pointer (some ⟨gl, 0, none⟩)), (5, .bool true), (6, w), (16, Zx o.length), (17, Zx (s : Nat))] _ _ ?_ (by simp (maxSteps := 2000000) only [↓Za, ↓Zm, ↓Zr, ↓Ze, ↓Zk, ↓Zs, ↓Zf, ↓Zi, ↓Zg, ↓Zc, ↓Zb, ↓vdn, vup, Zl, Zn, Zh, Zj, Zo, List.map_cons, List.map_nil, cond_true, cond_false, aop, Zv, Zq, Zp, ev, sput, Zt, Zy, Ya, unK, Zd, Zw, Nat.reduceBEq, Nat.reduceAdd, Int.reduceBEq, Int.reduceBNe, Int.reduceLT, Zu, Zz, tup, tyf])
      clear hN23
      try clear N23
      refine Yh fun B hB => ?_
      refine Yk ?_
      refine Yc fun N24 hN24 => ?_
      simp (maxSteps := 2000000) only [s45, ↓Za, ↓Zm, ↓Zr, ↓Ze, ↓Zk, ↓Zs, ↓Zf, ↓Zi, ↓Zg, ↓Zc, ↓Zb, ↓vdn, vup, Zl, Zn, Zh, Zj, Zo, List.map_cons, List.map_nil, cond_true, cond_false, aop, Zv, Zq, Zp, ev, sput, Zt, Zy, Ya, unK, Zd, Zw, Nat.reduceBEq, Nat.reduceAdd, Int.reduceBEq, Int.reduceBNe, Int.reduceLT, Zu, Zz, tup, tyf]
      refine hN24 [(2, .slice none 0 0), (3, .int .i64 0), (4, .pointer (some ⟨gl, 0, none⟩)), (5, .bool true), (6, w), (7, Zx (s : Nat)), (16, Zx o.length), (17, Zx (s : Nat))] _ _ ?_ (by simp (maxSteps := 2000000) only [↓Za, ↓Zm, ↓Zr, ↓Ze, ↓Zk, ↓Zs, ↓Zf, ↓Zi, ↓Zg, ↓Zc, ↓Zb, ↓vdn, vup, Zl, Zn, Zh, Zj, Zo, List.map_cons, List.map_nil, cond_true, cond_false, aop, Zv, Zq, Zp, ev, sput, Zt, Zy, Ya, unK, Zd, Zw, Nat.reduceBEq, Nat.reduceAdd, Int.reduceBEq, Int.reduceBNe, Int.reduceLT, Zu, Zz, tup, tyf])
      clear hN24
      try clear N24
      refine Yl ?_
      simp (maxSteps := 2000000) only [s45, ↓Za, ↓Zm, ↓Zr, ↓Ze, ↓Zk, ↓Zs, ↓Zf, ↓Zi, ↓Zg, ↓Zc, ↓Zb, ↓vdn, vup, Zl, Zn, Zh, Zj, Zo, List.map_cons, List.map_nil, cond_true, cond_false, aop, Zv, Zq, Zp, ev, sput, Zt, Zy, Ya, unK, Zd, Zw, Nat.reduceBEq, Nat.reduceAdd, Int.reduceBEq, Int.reduceBNe, Int.reduceLT, Zu, Zz, tup, tyf, Xf, List.nil_append, List.append_nil, List.toList_toArray, List.cons_append, loadO hbH Xr hln.2]
      refine (below_call ho (i := s)).mono ?_
      rintro _ H ⟨rfl, rfl⟩
      simp (maxSteps := 2000000) only [s45, ↓Za, ↓Zm, ↓Zr, ↓Ze, ↓Zk, ↓Zs, ↓Zf, ↓Zi, ↓Zg, ↓Zc, ↓Zb, ↓vdn, vup, Zl, Zn, Zh, Zj, Zo, List.map_cons, List.map_nil, cond_true, cond_false, aop, Zv, Zq, Zp, ev, sput, Zt, Zy, Ya, unK, Zd, Zw, Nat.reduceBEq, Nat.reduceAdd, Int.reduceBEq, Int.reduceBNe, Int.reduceLT, Zu, Zz, tup, tyf, litI1]
      refine OwnSl.append (x := ((dn o s : Nat) : Int)) (how.ext (S := fun _ => False) (Ext.app _ _ _) (fun _ _ => id)) Vl (by simp; omega) (Yv _ _) ?_
      intro w' G2 ho' hE' hb'
      rw [← hnx] at ho'
      have hE2 : Ext (fun _ => False) G G2 := ext_app hEH (H' := H ++ [Blk.ints [((dn o s : Nat) : Int)] 3 false]) (by simp) (fun q hq => List.getElem?_append_left (by have := hEH.1; omega)) (fun b hb => hbw b hb) hE'
      have hbw' : ∀ b, Yd w' = some b → G.length ≤ b := fun b hb => by
        rcases hb' with h1 | ⟨b', h1, h2⟩
        · exact hbw b (h1 ▸ hb)
        · rw [h1] at hb; cases hb
          rw [List.length_append] at h2
          have := hEH.1; omega
      refine hB [(2, .slice none 0 0), (3, .int .i64 0), (4, .pointer (some ⟨gl, 0, none⟩)), (5, .bool true), (6, w'), (16, Zx o.length), (17, Zx (s : Nat))] _ _ ?_ (by simp (maxSteps := 2000000) only [↓Za, ↓Zm, ↓Zr, ↓Ze, ↓Zk, ↓Zs, ↓Zf, ↓Zi, ↓Zg, ↓Zc, ↓Zb, ↓vdn, vup, Zl, Zn, Zh, Zj, Zo, List.map_cons, List.map_nil, cond_true, cond_false, aop, Zv, Zq, Zp, ev, sput, Zt, Zy, Ya, unK, Zd, Zw, Nat.reduceBEq, Nat.reduceAdd, Int.reduceBEq, Int.reduceBNe, Int.reduceLT, Zu, Zz, tup, tyf])
      clear hB
      try clear B
      refine Yl ?_
      simp (maxSteps := 2000000) only [s45, ↓Za, ↓Zm, ↓Zr, ↓Ze, ↓Zk, ↓Zs, ↓Zf, ↓Zi, ↓Zg, ↓Zc, ↓Zb, ↓vdn, vup, Zl, Zn, Zh, Zj, Zo, List.map_cons, List.map_nil, cond_true, cond_false, aop, Zv, Zq, Zp, ev, sput, Zt, Zy, Ya, unK, Zd, Zw, Nat.reduceBEq, Nat.reduceAdd, Int.reduceBEq, Int.reduceBNe, Int.reduceLT, Zu, Zz, tup, tyf, add1 (show s < 9223372036854775807 by omega)]
      exact hQ2 _ _ _ ⟨(s + 1, w', G2), ⟨hs', ho', hE2, hbw'⟩, by simp only; omega, by simp (maxSteps := 2000000) only [↓Za, ↓Zm, ↓Zr, ↓Ze, ↓Zk, ↓Zs, ↓Zf, ↓Zi, ↓Zg, ↓Zc, ↓Zb, ↓vdn, vup, Zl, Zn, Zh, Zj, Zo, List.map_cons, List.map_nil, cond_true, cond_false, aop, Zv, Zq, Zp, ev, sput, Zt, Zy, Ya, unK, Zd, Zw, Nat.reduceBEq, Nat.reduceAdd, Int.reduceBEq, Int.reduceBNe, Int.reduceLT, Zu, Zz, tup, tyf], rfl⟩
    · obtain rfl : s = o.length := by omega
      refine Yc fun N25 hN25 => ?_
      simp (maxSteps := 2000000) only [s45, ↓Za, ↓Zm, ↓Zr, ↓Ze, ↓Zk, ↓Zs, ↓Zf, ↓Zi, ↓Zg, ↓Zc, ↓Zb, ↓vdn, vup, Zl, Zn, Zh, Zj, Zo, List.map_cons, List.map_nil, cond_true, cond_false, aop, Zv, Zq, Zp, ev, sput, Zt, Zy, Ya, unK, Zd, Zw, Nat.reduceBEq, Nat.reduceAdd, Int.reduceBEq, Int.reduceBNe, Int.reduceLT, Zu, Zz, tup, tyf, hin]
      refine hN25 [(2, .slice none 0 0), (3, .int .i64 0), (4, .pointer (some ⟨gl, 0, none⟩)), (5, .bool true), (6, w), (16, Zx o.length), (17, Zx o.length), (18, .bool false)] _ _ ?_ (by simp (maxSteps := 2000000) only [↓Za, ↓Zm, ↓Zr, ↓Ze, ↓Zk, ↓Zs, ↓Zf, ↓Zi, ↓Zg, ↓Zc, ↓Zb, ↓vdn, vup, Zl, Zn, Zh, Zj, Zo, List.map_cons, List.map_nil, cond_true, cond_false, aop, Zv, Zq, Zp, ev, sput, Zt, Zy, Ya, unK, Zd, Zw, Nat.reduceBEq, Nat.reduceAdd, Int.reduceBEq, Int.reduceBNe, Int.reduceLT, Zu, Zz, tup, tyf])
      clear hN25
      try clear N25
      refine Yc fun N26 hN26 => ?_
      simp (maxSteps := 2000000) only [s45, ↓Za, ↓Zm, ↓Zr, ↓Ze, ↓Zk, ↓Zs, ↓Zf, ↓Zi, ↓Zg, ↓Zc, ↓Zb, ↓vdn, vup, Zl, Zn, Zh, Zj, Zo, List.map_cons, List.map_nil, cond_true, cond_false, aop, Zv, Zq, Zp, ev, sput, Zt, Zy, Ya, unK, Zd, Zw, Nat.reduceBEq, Nat.reduceAdd, Int.reduceBEq, Int.reduceBNe, Int.reduceLT, Zu, Zz, tup, tyf]
      refine hQ2 _ _ _ (hQ _ _ _ ?_)
      simp (maxSteps := 2000000) only [s45, ↓Za, ↓Zm, ↓Zr, ↓Ze, ↓Zk, ↓Zs, ↓Zf, ↓Zi, ↓Zg, ↓Zc, ↓Zb, ↓vdn, vup, Zl, Zn, Zh, Zj, Zo, List.map_cons, List.map_nil, cond_true, cond_false, aop, Zv, Zq, Zp, ev, sput, Zt, Zy, Ya, unK, Zd, Zw, Nat.reduceBEq, Nat.reduceAdd, Int.reduceBEq, Int.reduceBNe, Int.reduceLT, Zu, Zz, tup, tyf, if_true]
      refine hZ [(2, .slice none 0 0), (3, .int .i64 0), (4, .pointer (some ⟨gl, 0, none⟩)), (5, .bool true), (6, w)] _ _ ?_ (by simp (maxSteps := 2000000) only [↓Za, ↓Zm, ↓Zr, ↓Ze, ↓Zk, ↓Zs, ↓Zf, ↓Zi, ↓Zg, ↓Zc, ↓Zb, ↓vdn, vup, Zl, Zn, Zh, Zj, Zo, List.map_cons, List.map_nil, cond_true, cond_false, aop, Zv, Zq, Zp, ev, sput, Zt, Zy, Ya, unK, Zd, Zw, Nat.reduceBEq, Nat.reduceAdd, Int.reduceBEq, Int.reduceBNe, Int.reduceLT, Zu, Zz, tup, tyf])
      clear hZ
      try clear Z
      refine Yl ?_
      simp (maxSteps := 2000000) only [s45, ↓Za, ↓Zm, ↓Zr, ↓Ze, ↓Zk, ↓Zs, ↓Zf, ↓Zi, ↓Zg, ↓Zc, ↓Zb, ↓vdn, vup, Zl, Zn, Zh, Zj, Zo, List.map_cons, List.map_nil, cond_true, cond_false, aop, Zv, Zq, Zp, ev, sput, Zt, Zy, Ya, unK, Zd, Zw, Nat.reduceBEq, Nat.reduceAdd, Int.reduceBEq, Int.reduceBNe, Int.reduceLT, Zu, Zz, tup, tyf]
      exact ⟨hE.trans hEH, _, _, rfl, by rw [IntsIs, ho]; exact ⟨rfl, how.int⟩⟩
end Go.Proofs.Tryd.Am

namespace Ord

theorem filter_lt' {α : Type} {p q : α → Bool} : ∀ {l : List α}, (∀ x ∈ l, p x = true → q x = true) → (∃ x ∈ l, q x = true ∧ p x = false) → (l.filter p).length < (l.filter q).length
  | [], _, h => by obtain ⟨x, hx, _⟩ := h; cases hx
  | a :: l, h1, h2 => by
    have hle : ∀ {l : List α}, (∀ x ∈ l, p x = true → q x = true) → (l.filter p).length ≤ (l.filter q).length := fun {l} => by
      induction l with
      | nil => intro _; exact Nat.le_refl _
      | cons b l ih =>
        intro h
        have := ih fun x hx => h x (by simp [hx])
        have hb := h b (by simp)
        simp only [List.filter_cons]
        cases hp : p b <;> cases hq : q b <;> simp_all <;> omega
    have ht := h1 a (by simp)
    have hl := hle (l := l) fun x hx => h1 x (by simp [hx])
    obtain ⟨x, hx, hq, hp⟩ := h2
    simp only [List.filter_cons]
    rcases List.mem_cons.1 hx with rfl | hx
    · simp [hq, hp]; omega
    · have := filter_lt' (fun x hx => h1 x (by simp [hx])) ⟨x, hx, hq, hp⟩
      cases hpa : p a <;> cases hqa : q a <;> simp_all <;> omega
theorem filter_le' {α : Type} {p q : α → Bool} : ∀ {l : List α}, (∀ x ∈ l, p x = true → q x = true) → (l.filter p).length ≤ (l.filter q).length
  | [], _ => Nat.le_refl _
  | b :: l, h => by
    have := filter_le' (l := l) fun x hx => h x (by simp [hx])
    have hb := h b (by simp)
    simp only [List.filter_cons]
    cases hp : p b <;> cases hq : q b <;> simp_all <;> omega

/-- A line, told by a key. -/
structure Key (r : Nat → Nat → Bool) (S : List Nat) (K : Nat → Nat) : Prop where
  inj : ∀ i ∈ S, ∀ j ∈ S, K i = K j → i = j
  mono : ∀ i ∈ S, ∀ j ∈ S, r i j = true → K i < K j
/-- Lines that together show just what is above what. -/
structure Rlz (r : Nat → Nat → Bool) (S : List Nat) (Ks : List (Nat → Nat)) : Prop where
  key : ∀ K ∈ Ks, Key r S K
  rev : ∀ i ∈ S, ∀ j ∈ S, i ≠ j → r i j = false → ∃ K ∈ Ks, K j < K i
theorem Rlz.sub {r : Nat → Nat → Bool} {S T : List Nat} {Ks : List (Nat → Nat)} (h : Rlz r S Ks) (hs : ∀ i ∈ T, i ∈ S) : Rlz r T Ks :=
  ⟨fun K hK => ⟨fun i hi j hj => (h.key K hK).inj i (hs i hi) j (hs j hj), fun i hi j hj => (h.key K hK).mono i (hs i hi) j (hs j hj)⟩, fun i hi j hj => h.rev i (hs i hi) j (hs j hj)⟩

theorem bound_of (K : Nat → Nat) : ∀ S : List Nat, ∃ N, ∀ u ∈ S, K u < N
  | [] => ⟨0, fun _ h => by cases h⟩
  | a :: S => by
    obtain ⟨N, hN⟩ := bound_of K S
    refine ⟨max N (K a + 1), fun u hu => ?_⟩
    rcases List.mem_cons.1 hu with rfl | hu
    · omega
    · have := hN u hu; omega
theorem base_key {r : Nat → Nat → Bool} (h : Po r) {S : List Nat} (hS : S.Nodup) : ∃ K, Key r S K := by
  have hp := cnt_pos h (k := S.length) (S := S) rfl
  rw [← cnt_len] at hp
  obtain ⟨l, hl⟩ := List.exists_mem_of_ne_nil _ (List.ne_nil_of_length_pos hp)
  obtain ⟨h1, h2⟩ := (Vk h.irr rfl l).1 hl
  have hn := h1.nodup_iff.2 hS
  refine ⟨fun i => l.idxOf i, ⟨fun i hi j hj he => idx_inj (h1.mem_iff.2 hi) (h1.mem_iff.2 hj) he, fun i hi j hj hij => ?_⟩⟩
  rcases Nat.lt_or_ge (l.idxOf i) (l.idxOf j) with h3 | h3
  · exact h3
  · rcases Nat.lt_or_ge (l.idxOf j) (l.idxOf i) with h4 | h4
    · have := (bef_pw hn).1 h2 j (h1.mem_iff.2 hj) i (h1.mem_iff.2 hi) (by rw [bef]; exact decide_eq_true h4)
      rw [hij] at this; cases this
    · have := idx_inj (h1.mem_iff.2 hi) (h1.mem_iff.2 hj) (by omega)
      subst this
      rw [h.irr] at hij; cases hij

/-- **As many lines as chains suffice.** -/
theorem rlz_chains {r : Nat → Nat → Bool} (h : Po r) {S : List Nat} (hS : S.Nodup) {k : Nat} {f : Nat → Nat} (hf : Chn r S k f) : ∃ Ks, Rlz r S Ks ∧ Ks.length = k := by
  obtain ⟨B, hB⟩ := base_key h hS
  obtain ⟨N, hN⟩ := bound_of B S
  obtain ⟨lev, hlev⟩ : ∃ lev : Nat → Nat → Nat, lev = fun c u => (S.filter fun z => decide (f z = c) && (decide (z = u) || r z u)).length := ⟨_, rfl⟩
  have hm : ∀ c, ∀ u v, r u v = true → lev c u ≤ lev c v := fun c u v huv => by
    rw [hlev]
    refine filter_le' fun z _ hz => ?_
    simp only [Bool.and_eq_true, Bool.or_eq_true, decide_eq_true_eq] at hz ⊢
    refine ⟨hz.1, .inr ?_⟩
    rcases hz.2 with rfl | h2
    · exact huv
    · exact h.tr _ _ _ h2 huv
  have hmul : ∀ {a b x y : Nat}, a < b → x < N → a * N + x < b * N + y := fun {a b x y} hab hx => by
    have : (a + 1) * N ≤ b * N := Nat.mul_le_mul_right _ hab
    rw [Nat.succ_mul] at this
    omega
  refine ⟨(List.range k).map fun c u => lev c u * N + B u, ⟨fun K hK => ?_, fun i hi j hj hne hij => ?_⟩, by simp⟩
  · obtain ⟨c, _, rfl⟩ := List.mem_map.1 hK
    refine ⟨fun i hi j hj he => ?_, fun i hi j hj hij => ?_⟩
    · rcases Nat.lt_trichotomy (lev c i) (lev c j) with h1 | h1 | h1
      · have := hmul (y := B j) h1 (hN i hi); omega
      · rw [h1] at he; exact hB.inj i hi j hj (by omega)
      · have := hmul (y := B i) h1 (hN j hj); omega
    · have h1 := hm c i j hij
      have h2 := hB.mono i hi j hj hij
      rcases Nat.lt_or_ge (lev c i) (lev c j) with h3 | h3
      · exact hmul h3 (hN i hi)
      · have : lev c i = lev c j := by omega
        simp only [this]; omega
  · refine ⟨_, List.mem_map.2 ⟨f i, List.mem_range.2 (hf.lt i hi), rfl⟩, ?_⟩
    cases hji : r j i with
    | true =>
      have h1 := hm (f i) j i hji
      have h2 := hB.mono j hj i hi hji
      rcases Nat.lt_or_ge (lev (f i) j) (lev (f i) i) with h3 | h3
      · exact hmul h3 (hN j hj)
      · have : lev (f i) j = lev (f i) i := by omega
        simp only [this]; omega
    | false =>
      refine hmul ?_ (hN j hj)
      rw [hlev]
      refine filter_lt' (fun z hz hp => ?_) ⟨i, hi, by simp, by simp [hne, hij]⟩
      simp only [Bool.and_eq_true, Bool.or_eq_true, decide_eq_true_eq] at hp ⊢
      refine ⟨hp.1, ?_⟩
      rcases hf.ch z hz i hi hp.1 with h1 | h1 | h1
      · exact .inl h1
      · exact .inr h1
      · exfalso
        rcases hp.2 with rfl | h2
        · rw [hij] at h1; cases h1
        · rw [h.tr _ _ _ h1 h2] at hij; cases hij

/-- **An element more wants one line more.** -/
theorem rlz_insert {r : Nat → Nat → Bool} (h : Po r) {S : List Nat} {x : Nat} (hx : x ∉ S) {K : Nat → Nat} {Ks : List (Nat → Nat)} (hr : Rlz r S (K :: Ks)) : ∃ Ks', Rlz r (x :: S) Ks' ∧ Ks'.length = Ks.length + 2 := by
  obtain ⟨N, hN⟩ := bound_of K S
  have hK := hr.key K (by simp)
  have hne : ∀ u ∈ S, u ≠ x := fun u hu he => hx (he ▸ hu)
  obtain ⟨M1, hM1⟩ : ∃ M : Nat → Nat, M = fun u => if u = x then N else if r x u then N + 1 + K u else K u := ⟨_, rfl⟩
  obtain ⟨M2, hM2⟩ : ∃ M : Nat → Nat, M = fun u => if u = x then N else if r u x then K u else N + 1 + K u := ⟨_, rfl⟩
  have m1x : M1 x = N := by rw [hM1]; simp
  have m2x : M2 x = N := by rw [hM2]; simp
  have m1 : ∀ u ∈ S, M1 u = if r x u then N + 1 + K u else K u := fun u hu => by rw [hM1]; exact if_neg (hne u hu)
  have m2 : ∀ u ∈ S, M2 u = if r u x then K u else N + 1 + K u := fun u hu => by rw [hM2]; exact if_neg (hne u hu)
  obtain ⟨mx, hmx⟩ : ∃ mx : (Nat → Nat) → Nat, ∀ L, (∀ d ∈ S, r d x = true → L d + 1 ≤ mx L) ∧ (mx L = 0 ∨ ∃ d ∈ S, r d x = true ∧ mx L = L d + 1) := by
    suffices hh : ∀ L : Nat → Nat, ∃ m, (∀ d ∈ S, r d x = true → L d + 1 ≤ m) ∧ (m = 0 ∨ ∃ d ∈ S, r d x = true ∧ m = L d + 1) from ⟨fun L => Classical.choose (hh L), fun L => Classical.choose_spec (hh L)⟩
    intro L
    have : ∀ T : List Nat, ∃ m, (∀ d ∈ T, r d x = true → L d + 1 ≤ m) ∧ (m = 0 ∨ ∃ d ∈ T, r d x = true ∧ m = L d + 1) := fun T => by
      induction T with
      | nil => exact ⟨0, fun _ h => (by cases h), .inl rfl⟩
      | cons a T ih =>
        obtain ⟨m, h1, h2⟩ := ih
        by_cases ha : r a x = true ∧ m < L a + 1
        · refine ⟨L a + 1, fun d hd hdx => ?_, .inr ⟨a, by simp, ha.1, rfl⟩⟩
          rcases List.mem_cons.1 hd with rfl | hd
          · exact Nat.le_refl _
          · have := h1 d hd hdx; omega
        · refine ⟨m, fun d hd hdx => ?_, ?_⟩
          · rcases List.mem_cons.1 hd with rfl | hd
            · rcases Nat.lt_or_ge m (L d + 1) with h3 | h3
              · exact absurd ⟨hdx, h3⟩ ha
              · exact h3
            · exact h1 d hd hdx
          · rcases h2 with h2 | ⟨d, h2, h3⟩
            · exact .inl h2
            · exact .inr ⟨d, by simp [h2], h3⟩
    exact this S
  obtain ⟨ex, hex⟩ : ∃ ex : (Nat → Nat) → Nat → Nat, ex = fun L u => if u = x then 2 * mx L + 1 else 2 * (L u + 1) := ⟨_, rfl⟩
  have exx : ∀ L, ex L x = 2 * mx L + 1 := fun L => by rw [hex]; simp
  have exu : ∀ L, ∀ u ∈ S, ex L u = 2 * (L u + 1) := fun L u hu => by rw [hex]; exact if_neg (hne u hu)
  have keyOf : ∀ M : Nat → Nat, (∀ u ∈ S, M u ≠ M x) → (∀ i ∈ S, ∀ j ∈ S, M i = M j → i = j) → (∀ i ∈ S, ∀ j ∈ S, r i j = true → M i < M j) → (∀ u ∈ S, r x u = true → M x < M u) → (∀ u ∈ S, r u x = true → M u < M x) → Key r (x :: S) M := fun M a1 a2 a3 a4 a5 => by
    refine ⟨fun i hi j hj he => ?_, fun i hi j hj hij => ?_⟩
    · rw [List.mem_cons] at hi
      rcases hi with rfl | hi
      · rw [List.mem_cons] at hj
        rcases hj with rfl | hj
        · rfl
        · exact absurd he.symm (a1 j hj)
      · rw [List.mem_cons] at hj
        rcases hj with rfl | hj
        · exact absurd he (a1 i hi)
        · exact a2 i hi j hj he
    · rw [List.mem_cons] at hi
      rcases hi with rfl | hi
      · rw [List.mem_cons] at hj
        rcases hj with rfl | hj
        · rw [h.irr] at hij; cases hij
        · exact a4 j hj hij
      · rw [List.mem_cons] at hj
        rcases hj with rfl | hj
        · exact a5 i hi hij
        · exact a3 i hi j hj hij
  refine ⟨M1 :: M2 :: Ks.map ex, ⟨fun M hM => ?_, fun i hi j hj hij hn => ?_⟩, by simp⟩
  · rcases List.mem_cons.1 hM with rfl | hM
    · refine keyOf M (fun u hu => ?_) (fun i hi j hj he => ?_) (fun i hi j hj hij => ?_) (fun u hu hxu => ?_) fun u hu hux => ?_
      · rw [m1 u hu, m1x]; have := hN u hu; split <;> omega
      · rw [m1 i hi, m1 j hj] at he
        have := hN i hi; have := hN j hj
        refine hK.inj i hi j hj ?_
        split at he <;> split at he <;> omega
      · rw [m1 i hi, m1 j hj]
        have := hN i hi; have := hN j hj
        have h1 := hK.mono i hi j hj hij
        split
        · rename_i h2
          rw [if_pos (h.tr _ _ _ h2 hij)]; omega
        · split <;> omega
      · rw [m1x, m1 u hu, if_pos hxu]; omega
      · have h2 : r x u = false := h.asym hux
        rw [m1x, m1 u hu, if_neg (by simp [h2])]; exact hN u hu
    · rcases List.mem_cons.1 hM with rfl | hM
      · refine keyOf M (fun u hu => ?_) (fun i hi j hj he => ?_) (fun i hi j hj hij => ?_) (fun u hu hxu => ?_) fun u hu hux => ?_
        · rw [m2 u hu, m2x]; have := hN u hu; split <;> omega
        · rw [m2 i hi, m2 j hj] at he
          have := hN i hi; have := hN j hj
          refine hK.inj i hi j hj ?_
          split at he <;> split at he <;> omega
        · rw [m2 i hi, m2 j hj]
          have := hN i hi; have := hN j hj
          have h1 := hK.mono i hi j hj hij
          by_cases h2 : r j x = true
          · rw [if_pos h2, if_pos (h.tr _ _ _ hij h2)]; omega
          · rw [if_neg h2]; split <;> omega
        · have h2 : r u x = false := h.asym hxu
          rw [m2x, m2 u hu, if_neg (by simp [h2])]; omega
        · rw [m2x, m2 u hu, if_pos hux]; exact hN u hu
      · obtain ⟨L, hL, rfl⟩ := List.mem_map.1 hM
        have kL := hr.key L (by simp [hL])
        obtain ⟨x1, x2⟩ := hmx L
        refine keyOf _ (fun u hu => ?_) (fun i hi j hj he => ?_) (fun i hi j hj hij => ?_) (fun u hu hxu => ?_) fun u hu hux => ?_
        · rw [exx, exu L u hu]; omega
        · rw [exu L i hi, exu L j hj] at he; exact kL.inj i hi j hj (by omega)
        · rw [exu L i hi, exu L j hj]; have := kL.mono i hi j hj hij; omega
        · rw [exx, exu L u hu]
          rcases x2 with x2 | ⟨d, h1, h2, h3⟩
          · omega
          · have := kL.mono d h1 u hu (h.tr _ _ _ h2 hxu); omega
        · rw [exx, exu L u hu]; have := x1 u hu hux; omega
  · rw [List.mem_cons] at hi
    rcases hi with rfl | hi
    · rw [List.mem_cons] at hj
      rcases hj with rfl | hj
      · exact absurd rfl hij
      · refine ⟨M1, by simp, ?_⟩
        rw [m1x, m1 j hj, if_neg (by simp [hn])]; exact hN j hj
    · rw [List.mem_cons] at hj
      rcases hj with rfl | hj
      · refine ⟨M2, by simp, ?_⟩
        rw [m2x, m2 i hi, if_neg (by simp [hn])]; omega
      · obtain ⟨L, hL, hlt⟩ := hr.rev i hi j hj hij hn
        rcases List.mem_cons.1 hL with rfl | hL
        · by_cases hb : r x j = true ∧ r x i = false
          · refine ⟨M2, by simp, ?_⟩
            have h1 : r i x = false := by
              cases hc : r i x with
              | false => rfl
              | true => rw [h.tr _ _ _ hc hb.1] at hn; cases hn
            rw [m2 i hi, m2 j hj, if_neg (by simp [h.asym hb.1]), if_neg (by simp [h1])]
            omega
          · refine ⟨M1, by simp, ?_⟩
            rw [m1 i hi, m1 j hj]
            have := hN i hi; have := hN j hj
            by_cases h1 : r x j = true
            · have h2 : r x i = true := by
                cases hc : r x i with
                | true => rfl
                | false => exact absurd ⟨h1, hc⟩ hb
              rw [if_pos h1, if_pos h2]; omega
            · rw [if_neg h1]; split <;> omega
        · refine ⟨ex L, by simp only [List.mem_cons, List.mem_map]; exact .inr (.inr ⟨L, hL, rfl⟩), ?_⟩
          rw [exu L i hi, exu L j hj]; omega

/-- An antichain and an element more: two lines. -/
theorem rlz_anti {r : Nat → Nat → Bool} (h : Po r) {A : List Nat} {x : Nat} (hx : x ∉ A) (hn : A.Nodup) (ha : ∀ a ∈ A, ∀ b ∈ A, r a b = false) : ∃ K1 K2, Rlz r (x :: A) [K1, K2] := by
  obtain ⟨N, hN⟩ : ∃ N, N = A.length := ⟨_, rfl⟩
  have hi : ∀ u ∈ A, A.idxOf u < N := fun u hu => by rw [hN]; exact List.idxOf_lt_length_iff.2 hu
  have hne : ∀ u ∈ A, u ≠ x := fun u hu he => hx (he ▸ hu)
  have fin : ∀ M1 M2 : Nat → Nat, (∀ i ∈ x :: A, ∀ j ∈ x :: A, M1 i = M1 j → i = j) → (∀ i ∈ x :: A, ∀ j ∈ x :: A, M2 i = M2 j → i = j) → (∀ u ∈ A, r x u = true → M1 x < M1 u ∧ M2 x < M2 u) → (∀ u ∈ A, r u x = true → M1 u < M1 x ∧ M2 u < M2 x) →
      (∀ u ∈ A, r x u = false → M1 u < M1 x ∨ M2 u < M2 x) → (∀ u ∈ A, r u x = false → M1 x < M1 u ∨ M2 x < M2 u) → (∀ i ∈ A, ∀ j ∈ A, i ≠ j → M1 j < M1 i ∨ M2 j < M2 i) → ∃ K1 K2, Rlz r (x :: A) [K1, K2] := fun M1 M2 a1 a2 a3 a4 a5 a6 a7 => by
    have mono : ∀ M : Nat → Nat, (∀ u ∈ A, r x u = true → M x < M u) → (∀ u ∈ A, r u x = true → M u < M x) → ∀ i ∈ x :: A, ∀ j ∈ x :: A, r i j = true → M i < M j := fun M b1 b2 i hi j hj hij => by
      rw [List.mem_cons] at hi
      rcases hi with rfl | hi
      · rw [List.mem_cons] at hj
        rcases hj with rfl | hj
        · rw [h.irr] at hij; cases hij
        · exact b1 j hj hij
      · rw [List.mem_cons] at hj
        rcases hj with rfl | hj
        · exact b2 i hi hij
        · rw [ha i hi j hj] at hij; cases hij
    refine ⟨M1, M2, ⟨fun K hK => ?_, fun i hi j hj hij hn => ?_⟩⟩
    · rcases List.mem_cons.1 hK with rfl | hK
      · exact ⟨a1, mono K (fun u hu hr => (a3 u hu hr).1) fun u hu hr => (a4 u hu hr).1⟩
      · obtain rfl := List.mem_singleton.1 hK
        exact ⟨a2, mono K (fun u hu hr => (a3 u hu hr).2) fun u hu hr => (a4 u hu hr).2⟩
    · have : M1 j < M1 i ∨ M2 j < M2 i := by
        rw [List.mem_cons] at hi
        rcases hi with rfl | hi
        · rw [List.mem_cons] at hj
          rcases hj with rfl | hj
          · exact absurd rfl hij
          · exact a5 j hj hn
        · rw [List.mem_cons] at hj
          rcases hj with rfl | hj
          · exact a6 i hi hn
          · exact a7 i hi j hj hij
      rcases this with h1 | h1
      · exact ⟨M1, by simp, h1⟩
      · exact ⟨M2, by simp, h1⟩
  have hidx : ∀ i ∈ A, ∀ j ∈ A, A.idxOf i = A.idxOf j → i = j := fun i hi j hj he => idx_inj hi hj he
  by_cases hD : ∃ d ∈ A, r d x = true
  · obtain ⟨d, hd, hdx⟩ := hD
    have hU : ∀ u ∈ A, r x u = false := fun u hu => by
      cases hc : r x u with
      | false => rfl
      | true => have := h.tr _ _ _ hdx hc; rw [ha d hd u hu] at this; cases this
    obtain ⟨M, hM⟩ : ∃ M : Nat → Nat, M = fun u => if u = x then N else if r u x then A.idxOf u else N + 1 + A.idxOf u := ⟨_, rfl⟩
    obtain ⟨M', hM'⟩ : ∃ M' : Nat → Nat, M' = fun u => if u = x then 3 * N + 9 else 3 * N + 8 - M u := ⟨_, rfl⟩
    have mx : M x = N := by rw [hM]; simp
    have mx' : M' x = 3 * N + 9 := by rw [hM']; simp
    have mu : ∀ u ∈ A, M u = if r u x then A.idxOf u else N + 1 + A.idxOf u := fun u hu => by rw [hM]; exact if_neg (hne u hu)
    have mu' : ∀ u ∈ A, M' u = 3 * N + 8 - M u := fun u hu => by rw [hM']; exact if_neg (hne u hu)
    have ml : ∀ u ∈ A, M u ≤ 2 * N + 1 := fun u hu => by rw [mu u hu]; have := hi u hu; split <;> omega
    have inj : ∀ i ∈ A, ∀ j ∈ A, M i = M j → i = j := fun i hi1 j hj1 he => by
      rw [mu i hi1, mu j hj1] at he
      have := hi i hi1; have := hi j hj1
      refine hidx i hi1 j hj1 ?_
      split at he <;> split at he <;> omega
    have nx : ∀ u ∈ A, M u ≠ N := fun u hu => by rw [mu u hu]; have := hi u hu; split <;> omega
    refine fin M M' (fun i hi1 j hj1 he => ?_) (fun i hi1 j hj1 he => ?_) (fun u hu hr => ?_) (fun u hu hr => ?_) (fun u hu hr => .inr ?_) (fun u hu hr => .inl ?_) fun i hi1 j hj1 hij => ?_
    · rw [List.mem_cons] at hi1
      rcases hi1 with rfl | hi1
      · rw [List.mem_cons] at hj1
        rcases hj1 with rfl | hj1
        · rfl
        · rw [mx] at he; exact absurd he.symm (nx j hj1)
      · rw [List.mem_cons] at hj1
        rcases hj1 with rfl | hj1
        · rw [mx] at he; exact absurd he (nx i hi1)
        · exact inj i hi1 j hj1 he
    · rw [List.mem_cons] at hi1
      rcases hi1 with rfl | hi1
      · rw [List.mem_cons] at hj1
        rcases hj1 with rfl | hj1
        · rfl
        · rw [mx', mu' j hj1] at he; omega
      · rw [List.mem_cons] at hj1
        rcases hj1 with rfl | hj1
        · rw [mx', mu' i hi1] at he; omega
        · rw [mu' i hi1, mu' j hj1] at he
          have := ml i hi1; have := ml j hj1
          exact inj i hi1 j hj1 (by omega)
    · rw [hU u hu] at hr; cases hr
    · rw [mx, mx', mu' u hu, mu u hu, if_pos hr]; exact ⟨hi u hu, by omega⟩
    · rw [mx', mu' u hu]; omega
    · rw [mx, mu u hu, if_neg (by simp [hr])]; omega
    · rw [mu' i hi1, mu' j hj1]
      have := ml i hi1; have := ml j hj1
      have : M i ≠ M j := fun he => hij (inj i hi1 j hj1 he)
      omega
  · have hD' : ∀ u ∈ A, r u x = false := fun u hu => by
      cases hc : r u x with
      | false => rfl
      | true => exact absurd ⟨u, hu, hc⟩ hD
    obtain ⟨M, hM⟩ : ∃ M : Nat → Nat, M = fun u => if u = x then N else if r x u then N + 1 + A.idxOf u else A.idxOf u := ⟨_, rfl⟩
    obtain ⟨M', hM'⟩ : ∃ M' : Nat → Nat, M' = fun u => if u = x then 0 else 3 * N + 8 - M u := ⟨_, rfl⟩
    have mx : M x = N := by rw [hM]; simp
    have mx' : M' x = 0 := by rw [hM']; simp
    have mu : ∀ u ∈ A, M u = if r x u then N + 1 + A.idxOf u else A.idxOf u := fun u hu => by rw [hM]; exact if_neg (hne u hu)
    have mu' : ∀ u ∈ A, M' u = 3 * N + 8 - M u := fun u hu => by rw [hM']; exact if_neg (hne u hu)
    have ml : ∀ u ∈ A, M u ≤ 2 * N + 1 := fun u hu => by rw [mu u hu]; have := hi u hu; split <;> omega
    have inj : ∀ i ∈ A, ∀ j ∈ A, M i = M j → i = j := fun i hi1 j hj1 he => by
      rw [mu i hi1, mu j hj1] at he
      have := hi i hi1; have := hi j hj1
      refine hidx i hi1 j hj1 ?_
      split at he <;> split at he <;> omega
    have nx : ∀ u ∈ A, M u ≠ N := fun u hu => by rw [mu u hu]; have := hi u hu; split <;> omega
    refine fin M M' (fun i hi1 j hj1 he => ?_) (fun i hi1 j hj1 he => ?_) (fun u hu hr => ?_) (fun u hu hr => ?_) (fun u hu hr => .inl ?_) (fun u hu hr => .inr ?_) fun i hi1 j hj1 hij => ?_
    · rw [List.mem_cons] at hi1
      rcases hi1 with rfl | hi1
      · rw [List.mem_cons] at hj1
        rcases hj1 with rfl | hj1
        · rfl
        · rw [mx] at he; exact absurd he.symm (nx j hj1)
      · rw [List.mem_cons] at hj1
        rcases hj1 with rfl | hj1
        · rw [mx] at he; exact absurd he (nx i hi1)
        · exact inj i hi1 j hj1 he
    · rw [List.mem_cons] at hi1
      rcases hi1 with rfl | hi1
      · rw [List.mem_cons] at hj1
        rcases hj1 with rfl | hj1
        · rfl
        · rw [mx', mu' j hj1] at he; have := ml j hj1; omega
      · rw [List.mem_cons] at hj1
        rcases hj1 with rfl | hj1
        · rw [mx', mu' i hi1] at he; have := ml i hi1; omega
        · rw [mu' i hi1, mu' j hj1] at he
          have := ml i hi1; have := ml j hj1
          exact inj i hi1 j hj1 (by omega)
    · rw [mx, mx', mu' u hu, mu u hu, if_pos hr]; have := hi u hu; exact ⟨by omega, by omega⟩
    · rw [hD' u hu] at hr; cases hr
    · rw [mx, mu u hu, if_neg (by simp [hr])]; exact hi u hu
    · rw [mx', mu' u hu]; have := ml u hu; omega
    · rw [mu' i hi1, mu' j hj1]
      have := ml i hi1; have := ml j hj1
      have : M i ≠ M j := fun he => hij (inj i hi1 j hj1 he)
      omega

/-- **At most three lines, and at most as many as an antichain has elements.** -/
theorem dim_le {r : Nat → Nat → Bool} (h : Po r) {S : List Nat} (hS : S.Nodup) (hl : S.length ≤ 6) (h0 : S ≠ []) : ∃ A Ks, Ant r S A ∧ Rlz r S Ks ∧ 1 ≤ Ks.length ∧ Ks.length ≤ 3 ∧ Ks.length ≤ A.length := by
  obtain ⟨A, f, ha, hf⟩ := dilworth h _ S (Nat.le_refl _) hS
  have hA1 : 1 ≤ A.length := by
    obtain ⟨x, hx⟩ := List.exists_mem_of_ne_nil _ h0
    have := hf.lt x hx; omega
  by_cases h3 : A.length ≤ 3
  · obtain ⟨Ks, hk, hkl⟩ := rlz_chains h hS hf
    exact ⟨A, Ks, ha, hk, by omega, by omega, by omega⟩
  · obtain ⟨R, hR⟩ : ∃ R, R = S.filter fun z => !A.contains z := ⟨_, rfl⟩
    have hRm : ∀ z, z ∈ R ↔ z ∈ S ∧ z ∉ A := fun z => by rw [hR, List.mem_filter]; simp
    have hRn : R.Nodup := by rw [hR]; exact hS.filter _
    have hlen : A.length + R.length ≤ S.length := by
      rw [← List.length_append]
      refine sub_len (List.nodup_append.2 ⟨ha.nd, hRn, fun a h1 b h2 he => ?_⟩) fun z hz => ?_
      · subst he; exact ((hRm _).1 h2).2 h1
      · rcases List.mem_append.1 hz with hz | hz
        · exact ha.sub z hz
        · exact ((hRm _).1 hz).1
    have split : ∀ z, z ∈ S → z ∈ A ∨ z ∈ R := fun z hz => by
      by_cases hc : z ∈ A
      · exact .inl hc
      · exact .inr ((hRm _).2 ⟨hz, hc⟩)
    clear hR
    rcases R with _ | ⟨x, _ | ⟨y, _ | ⟨c, R'⟩⟩⟩
    · obtain ⟨x, A', rfl⟩ := List.exists_cons_of_ne_nil (List.ne_nil_of_length_pos hA1)
      obtain ⟨h1, h2⟩ := List.nodup_cons.1 ha.nd
      obtain ⟨K1, K2, hk⟩ := rlz_anti h h1 h2 fun a h3 b h4 => ha.an a (by simp [h3]) b (by simp [h4])
      exact ⟨_, _, ha, hk.sub fun z hz => (split z hz).elim id fun h => (by cases h), by simp, by simp, by simp at h3 ⊢; omega⟩
    · obtain ⟨K1, K2, hk⟩ := rlz_anti h ((hRm x).1 (List.mem_singleton.2 rfl)).2 ha.nd ha.an
      exact ⟨_, _, ha, hk.sub fun z hz => (split z hz).elim (fun h => by simp [h]) fun h => (by rw [List.mem_singleton.1 h]; simp), by simp, by simp, by simp; omega⟩
    · obtain ⟨K1, K2, hk⟩ := rlz_anti h ((hRm x).1 (by simp)).2 ha.nd ha.an
      have hy : y ∉ x :: A := fun hc => by
        rcases List.mem_cons.1 hc with hc | hc
        · simp [hc] at hRn
        · exact ((hRm y).1 (by simp)).2 hc
      obtain ⟨Ks, hk3, hl3⟩ := rlz_insert h hy hk
      refine ⟨_, Ks, ha, hk3.sub fun z hz => ?_, by simp [hl3], by simp [hl3], by simp at hl3; omega⟩
      rcases split z hz with h4 | h4
      · simp [h4]
      · rcases List.mem_cons.1 h4 with rfl | h4
        · simp
        · rw [List.mem_singleton.1 h4]; simp
    · simp only [List.length_cons] at hlen; omega
end Ord

namespace Ord
open Go.Am

/-- The first of the sequences, each number at least d behind the one ahead of it, that pass. -/
def srch (P : List Nat → Bool) (N d : Nat) : Nat → Nat → List Nat → Option (List Nat)
  | 0, _, pre => if P pre = true then some pre else none
  | s + 1, fr, pre => (List.range' fr (N - fr)).findSome? fun k => srch P N d s (k + d) (pre ++ [k])
def Cmp (N d : Nat) : Nat → List Nat → Prop
  | _, [] => True
  | fr, k :: t => fr ≤ k ∧ k < N ∧ Cmp N d (k + d) t
theorem Cmp.low {N d : Nat} : ∀ {t : List Nat} {a b : Nat}, a ≤ b → Cmp N d b t → Cmp N d a t
  | [], _, _, _, _ => trivial
  | k :: t, a, b, hab, h => ⟨Nat.le_trans hab h.1, h.2⟩
theorem Cmp.lt {N d : Nat} : ∀ {t : List Nat} {a : Nat}, Cmp N d a t → ∀ k ∈ t, a ≤ k ∧ k < N
  | [], _, _, _, h => by cases h
  | m :: t, a, h, k, hk => by
    rcases List.mem_cons.1 hk with rfl | hk
    · exact ⟨h.1, h.2.1⟩
    · have := Cmp.lt h.2.2 k hk; have := h.1; omega
section
variable {P : List Nat → Bool} {N d : Nat}
theorem srch_some : ∀ {s fr : Nat} {pre q : List Nat}, srch P N d s fr pre = some q → ∃ t, q = pre ++ t ∧ t.length = s ∧ Cmp N d fr t ∧ P q = true
  | 0, fr, pre, q, h => by
    rw [srch] at h
    split at h
    · rename_i hp
      cases h
      exact ⟨[], by simp, rfl, trivial, hp⟩
    · cases h
  | s + 1, fr, pre, q, h => by
    rw [srch] at h
    obtain ⟨k, hk, h2⟩ := List.exists_of_findSome?_eq_some h
    obtain ⟨t, h3, h4, h5, h6⟩ := srch_some h2
    have hk2 := List.mem_range'_1.1 hk
    exact ⟨k :: t, by rw [h3]; simp, by simp [h4], ⟨hk2.1, by omega, h5⟩, h6⟩
theorem srch_none : ∀ {s fr : Nat} {pre : List Nat}, srch P N d s fr pre = none → ∀ t, t.length = s → Cmp N d fr t → P (pre ++ t) = false
  | 0, fr, pre, h, t, ht, _ => by
    obtain rfl := List.length_eq_zero_iff.1 ht
    rw [srch] at h
    split at h
    · cases h
    · rename_i hp
      simpa using hp
  | s + 1, fr, pre, h, t, ht, hc => by
    match t, ht, hc with
    | k :: t, ht, hc =>
      rw [srch, List.findSome?_eq_none_iff] at h
      have := srch_none (h k (List.mem_range'_1.2 ⟨hc.1, by have := hc.1; have := hc.2.1; omega⟩)) t (by simpa using ht) hc.2.2
      rw [← this]; simp
theorem srch_dead {s fr : Nat} {pre : List Nat} (h : ∀ t, t.length = s → Cmp N d fr t → P (pre ++ t) = false) : srch P N d s fr pre = none := by
  cases hs : srch P N d s fr pre with
  | none => rfl
  | some q =>
    obtain ⟨t, rfl, h2, h3, h4⟩ := srch_some hs
    rw [h t h2 h3] at h4; cases h4
end
theorem findSome_congr {α β : Type} {f g : α → Option β} : ∀ {l : List α}, (∀ x ∈ l, f x = g x) → l.findSome? f = l.findSome? g
  | [], _ => rfl
  | a :: l, h => by
    rw [List.findSome?_cons, List.findSome?_cons, h a (by simp), findSome_congr fun x hx => h x (by simp [hx])]
/-- If no sequence with a repetition passes, repetitions may be left out. -/
theorem srch_weak {P : List Nat → Bool} {N : Nat} : ∀ {s fr : Nat} {pre : List Nat}, (∀ t, t.length = s → Cmp N 0 fr t → ¬ Cmp N 1 fr t → P (pre ++ t) = false) → srch P N 0 s fr pre = srch P N 1 s fr pre
  | 0, _, _, _ => rfl
  | s + 1, fr, pre, h => by
    rw [srch, srch]
    refine findSome_congr fun k hk => ?_
    have hk2 := List.mem_range'_1.1 hk
    have h1 : srch P N 0 s (k + 1) (pre ++ [k]) = srch P N 1 s (k + 1) (pre ++ [k]) := srch_weak fun t ht h0 hn => by
      rw [List.append_assoc]
      exact h (k :: t) (by simp [ht]) ⟨hk2.1, by omega, h0.low (Nat.le_succ k)⟩ fun hc => hn hc.2.2
    rw [← h1]
    cases s with
    | zero => rfl
    | succ s =>
      show srch P N 0 (s + 1) k (pre ++ [k]) = _
      rw [srch, srch]
      have hr : List.range' k (N - k) = k :: List.range' (k + 1) (N - (k + 1)) := by
        rw [show N - k = (N - (k + 1)) + 1 by omega, List.range'_succ]
      rw [hr, List.findSome?_cons, srch_dead fun t ht hc => ?_]
      rw [List.append_assoc, List.append_assoc]
      exact h (k :: k :: t) (by simp [ht]) ⟨hk2.1, by omega, Nat.le_refl _, by omega, hc⟩ fun hb => by
        have := hb.2.2.1; omega
theorem cmp_dup {N : Nat} : ∀ {t : List Nat} {fr : Nat}, Cmp N 0 fr t → ¬ Cmp N 1 fr t → ∃ a k b, t = a ++ k :: k :: b
  | [], _, _, h => absurd trivial h
  | [k], fr, h, hn => absurd ⟨h.1, h.2.1, trivial⟩ hn
  | k :: m :: t, fr, h, hn => by
    by_cases hm : m = k
    · exact ⟨[], k, t, by rw [hm]; rfl⟩
    · have h1 : Cmp N 0 (k + 1) (m :: t) := ⟨by have := h.2.2.1; omega, h.2.2.2⟩
      obtain ⟨a, x, b, he⟩ := cmp_dup h1 fun hc => hn ⟨h.1, h.2.1, hc⟩
      exact ⟨k :: a, x, b, by rw [he]; rfl⟩
theorem cmp_filter {N : Nat} (p : Nat → Bool) : ∀ (n fr : Nat), fr + n ≤ N → Cmp N 1 fr ((List.range' fr n).filter p)
  | 0, _, _ => trivial
  | n + 1, fr, h => by
    rw [List.range'_succ, List.filter_cons]
    have := cmp_filter (N := N) p n (fr + 1) (by omega)
    split
    · exact ⟨Nat.le_refl _, by omega, this⟩
    · exact this.low (Nat.le_succ fr)
/-- Sorted, without repetition. -/
theorem sorted_of {N : Nat} {ks : List Nat} (h : ∀ k ∈ ks, k < N) : ∃ t, Cmp N 1 0 t ∧ (∀ x, x ∈ t ↔ x ∈ ks) ∧ t.length ≤ ks.length := by
  have hm : ∀ x, x ∈ (List.range' 0 N).filter (fun x => ks.contains x) ↔ x ∈ ks := fun x => by
    rw [List.mem_filter, List.mem_range'_1, List.contains_iff_mem]
    exact ⟨fun h => h.2, fun hx => ⟨⟨Nat.zero_le _, by have := h x hx; omega⟩, hx⟩⟩
  exact ⟨_, cmp_filter (N := N) _ N 0 (by omega), hm, sub_len ((List.nodup_range' (step := 1)).filter _) fun a ha => (hm a).1 ha⟩

/-- The first of the Yr. -/
def Yr (P : List Nat → Bool) (N d : Nat) : Nat → Option (List Nat)
  | 0 => none
  | s + 1 => (Yr P N d s).or (srch P N d (s + 1) 0 [])
/-- What passes hangs on the members alone. -/
def Mem (P : List Nat → Bool) : Prop := ∀ a b : List Nat, (∀ x, x ∈ a ↔ x ∈ b) → P a = P b
theorem shortest_none {P : List Nat → Bool} {N d : Nat} : ∀ {s : Nat}, Yr P N d s = none → ∀ t, 1 ≤ t.length → t.length ≤ s → Cmp N d 0 t → P t = false
  | 0, _, t, h1, h2, _ => by omega
  | s + 1, h, t, h1, h2, hc => by
    rw [Yr, Option.or_eq_none_iff] at h
    by_cases hl : t.length = s + 1
    · have := srch_none h.2 t hl hc
      simpa using this
    · exact shortest_none h.1 t h1 (by omega) hc
theorem shortest_weak {P : List Nat → Bool} {N : Nat} (hP : Mem P) : ∀ s, Yr P N 0 s = Yr P N 1 s
  | 0 => rfl
  | s + 1 => by
    rw [Yr, Yr, shortest_weak hP s]
    cases h : Yr P N 1 s with
    | some q => rfl
    | none =>
      rw [Option.none_or, Option.none_or]
      refine srch_weak fun t ht h0 hn => ?_
      obtain ⟨a, k, b, rfl⟩ := cmp_dup h0 hn
      obtain ⟨t', h1, h2, h3⟩ := sorted_of (ks := a ++ k :: b) (N := N) fun x hx => (h0.lt x (by simp at hx ⊢; rcases hx with h | h | h <;> simp [h])).2
      have he : P ([] ++ (a ++ k :: k :: b)) = P t' := hP _ _ fun x => by rw [h2]; simp
      rw [he]
      have hne : 1 ≤ t'.length := List.length_pos_of_mem ((h2 k).2 (by simp))
      simp only [List.length_append, List.length_cons] at ht h3
      exact shortest_none h t' hne (by omega) h1

/-! ### Realizers -/
/-- All that is not above stands ahead somewhere. -/
def sepB (o : List Int) (pre : List Nat) : Bool := (List.range o.length).all fun i => (List.range o.length).all fun j => decide (i = j) || ab o i j || pre.any fun k => bef ((Yy o).getD k []) j i
theorem sepB_iff {o : List Int} {pre : List Nat} : sepB o pre = true ↔ ∀ i j, i < o.length → j < o.length → i ≠ j → ab o i j = false → ∃ k ∈ pre, bef ((Yy o).getD k []) j i = true := by
  simp only [sepB, List.all_eq_true, List.mem_range, Bool.or_eq_true, decide_eq_true_eq, List.any_eq_true]
  constructor
  · intro h i j hi hj hne hab
    rcases h i hi j hj with (h1 | h1) | h1
    · exact absurd h1 hne
    · rw [hab] at h1; cases h1
    · exact h1
  · intro h i hi j hj
    by_cases h1 : i = j
    · exact .inl (.inl h1)
    · cases h2 : ab o i j with
      | true => exact .inl (.inr rfl)
      | false => exact .inr (h i j hi hj h1 h2)
theorem sepB_mem (o : List Int) : Mem (sepB o) := fun a b h => by
  rw [Bool.eq_iff_iff, sepB_iff, sepB_iff]
  simp only [h]
def realL (o : List Int) : List Nat := ((Yr (sepB o) (cn o) 1 3).getD [])
theorem key_line {o : List Int} (ho : ord o = true) {K : Nat → Nat} (hK : Key (ab o) (List.range o.length) K) : ∃ k, k < cn o ∧ ∀ i j, i < o.length → j < o.length → K i < K j → bef ((Yy o).getD k []) i j = true := by
  obtain ⟨rK, hrK⟩ : ∃ rK : Nat → Nat → Bool, rK = fun i j => decide (K i < K j) := ⟨_, rfl⟩
  have hr : ∀ i j, rK i j = true ↔ K i < K j := fun i j => by rw [hrK]; exact decide_eq_true_iff
  have hpo : Po rK := ⟨fun i => by rw [← Bool.not_eq_true, hr]; omega, fun i j k h1 h2 => by rw [hr] at h1 h2 ⊢; omega⟩
  have hp := cnt_pos hpo (k := o.length) (S := List.range o.length) (by simp)
  rw [← cnt_len] at hp
  obtain ⟨l, hl⟩ := List.exists_mem_of_ne_nil _ (List.ne_nil_of_length_pos hp)
  obtain ⟨h1, h2⟩ := (Vk hpo.irr (by simp) l).1 hl
  have hla : l ∈ Yy o := (mem_all ho).2 ⟨h1, h2.imp_of_mem fun {a b} ha hb hab => by
    cases hc : ab o b a with
    | false => rfl
    | true =>
      have := hK.mono b (h1.mem_iff.1 hb) a (h1.mem_iff.1 ha) hc
      rw [(hr b a).2 this] at hab; cases hab⟩
  obtain ⟨k, hk, he⟩ := List.mem_iff_getElem.1 hla
  rw [Xp] at hk
  refine ⟨k, hk, fun i j hi hj hij => ?_⟩
  have hg : (Yy o).getD k [] = l := by rw [List.getD, List.getElem?_eq_getElem (by rw [Xp]; exact hk), he]; rfl
  rw [hg]
  have hn : l.Nodup := h1.nodup_iff.2 List.nodup_range
  have hil : i ∈ l := h1.mem_iff.2 (List.mem_range.2 hi)
  have hjl : j ∈ l := h1.mem_iff.2 (List.mem_range.2 hj)
  cases hc : bef l i j with
  | true => rfl
  | false =>
    have hne : i ≠ j := by rintro rfl; omega
    rw [bef_not hjl hil hne.symm] at hc
    have := (bef_pw hn).1 h2 j hjl i hil (by simpa using hc)
    rw [(hr i j).2 hij] at this; cases this
/-- **There is a realizer of at most three lines, and of at most as many as an antichain has elements.** -/
theorem real_ex {o : List Int} (ho : ord o = true) : ∃ A t, Ant (ab o) (List.range o.length) A ∧ Cmp (cn o) 1 0 t ∧ 1 ≤ t.length ∧ t.length ≤ 3 ∧ t.length ≤ max 1 A.length ∧ sepB o t = true := by
  have hl := Xk ho
  obtain ⟨A, Ks, ha, hk, h1, h3, hA⟩ := dim_le (ord_po ho) (S := List.range o.length) List.nodup_range (by simp; omega) (List.ne_nil_of_length_pos (by simp; omega))
  have hks : ∀ Ks' : List (Nat → Nat), (∀ K ∈ Ks', Key (ab o) (List.range o.length) K) → ∃ ks : List Nat, ks.length = Ks'.length ∧ (∀ k ∈ ks, k < cn o) ∧ ∀ K ∈ Ks', ∃ k ∈ ks, ∀ i j, i < o.length → j < o.length → K i < K j → bef ((Yy o).getD k []) i j = true := fun Ks' => by
    induction Ks' with
    | nil => intro _; exact ⟨[], rfl, fun _ h => (by cases h), fun _ h => by cases h⟩
    | cons K Ks' ih =>
      intro h
      obtain ⟨ks, g1, g2, g3⟩ := ih fun K hK => h K (by simp [hK])
      obtain ⟨k, g4, g5⟩ := key_line ho (h K (by simp))
      refine ⟨k :: ks, by simp [g1], fun x hx => ?_, fun K' hK' => ?_⟩
      · rcases List.mem_cons.1 hx with rfl | hx
        · exact g4
        · exact g2 x hx
      · rcases List.mem_cons.1 hK' with rfl | hK'
        · exact ⟨k, by simp, g5⟩
        · obtain ⟨k', g6, g7⟩ := g3 K' hK'
          exact ⟨k', by simp [g6], g7⟩
  obtain ⟨ks, g1, g2, g3⟩ := hks Ks hk.key
  obtain ⟨t, t1, t2, t3⟩ := sorted_of g2
  have hne : 1 ≤ t.length := by
    obtain ⟨x, hx⟩ := List.exists_mem_of_ne_nil ks (List.ne_nil_of_length_pos (by omega))
    exact List.length_pos_of_mem ((t2 x).2 hx)
  refine ⟨A, t, ha, t1, hne, by omega, by omega, ?_⟩
  rw [sepB_mem o t ks t2, sepB_iff]
  intro i j hi hj hne hab
  obtain ⟨K, hK, hlt⟩ := hk.rev i (List.mem_range.2 hi) j (List.mem_range.2 hj) hne hab
  obtain ⟨k, g4, g5⟩ := g3 K hK
  exact ⟨k, g4, g5 j i hj hi hlt⟩
end Ord

namespace Go.Proofs.Tryd.Am
open Go.Am
set_option maxRecDepth 100000
/-! 10: planchet planchetlaw07.OrderReals -/
@[reducible] def q10_0 : SCode := .region [⟨some 2, .assign (.const (.bool false)), none⟩]
@[reducible] def q10_1 : SCode := .region [⟨some 11, .move (.tmp 0), none⟩,
    ⟨some 12, .call { callee := .value (.func 18), args := #[.tmp 11], argTypes := #[22] }, none⟩,
    ⟨some 13, .call { callee := .value (.func 43), args := #[.tmp 12], argTypes := #[22] }, none⟩,
    ⟨some 10, .move (.tmp 13), none⟩,
    ⟨some 14, .extract (.tmp 10) 0, none⟩,
    ⟨some 15, .extract (.tmp 10) 1, none⟩,
    ⟨some 3, .assign (.tmp 14), none⟩,
    ⟨some 4, .assign (.tmp 15), none⟩]
@[reducible] def q10_2 : SCode := .region [⟨some 17, .move (.tmp 0), none⟩,
    ⟨some 18, .call { callee := .value (.func 18), args := #[.tmp 17], argTypes := #[22] }, none⟩,
    ⟨some 19, .call { callee := .value (.func 44), args := #[.tmp 18], argTypes := #[22] }, none⟩,
    ⟨some 16, .move (.tmp 19), none⟩,
    ⟨some 20, .extract (.tmp 16) 0, none⟩,
    ⟨some 21, .extract (.tmp 16) 1, none⟩,
    ⟨some 5, .assign (.tmp 20), none⟩,
    ⟨some 6, .assign (.tmp 21), none⟩]
@[reducible] def q10_3 : SCode := .region [⟨some 23, .move (.tmp 0), none⟩,
    ⟨some 24, .call { callee := .value (.func 18), args := #[.tmp 23], argTypes := #[22] }, none⟩,
    ⟨some 25, .call { callee := .value (.func 45), args := #[.tmp 24], argTypes := #[22] }, none⟩,
    ⟨some 22, .move (.tmp 25), none⟩,
    ⟨some 26, .extract (.tmp 22) 0, none⟩,
    ⟨some 27, .extract (.tmp 22) 1, none⟩,
    ⟨some 7, .assign (.tmp 26), none⟩,
    ⟨some 8, .assign (.tmp 27), none⟩]
@[reducible] def q10_4 : SCode := .region [⟨some 28, .move (.tmp 0), none⟩,
    ⟨some 29, .call { callee := .value (.func 19), args := #[.tmp 28], argTypes := #[22] }, none⟩,
    ⟨some 30, .unOp .not 4 (.tmp 29), none⟩]
@[reducible] def q10_5 : SCode := .region [⟨some 31, .move (.tmp 3), none⟩,
    ⟨some 32, .call { callee := .builtin .len, args := #[.tmp 31], argTypes := #[45] }, none⟩,
    ⟨some 33, .move (.tmp 7), none⟩,
    ⟨some 34, .call { callee := .builtin .len, args := #[.tmp 33], argTypes := #[22] }, none⟩,
    ⟨some 35, .binOp .add 3 (.tmp 32) (.tmp 34) 3, none⟩,
    ⟨some 36, .binOp .eql 3 (.tmp 35) (.const (.int .i64 0)) 3, none⟩,
    ⟨some 37, .move (.tmp 36), none⟩,
    ⟨some 38, .move (.tmp 5), some (37, true)⟩,
    ⟨some 39, .binOp .eql 3 (.tmp 38) (.const (.int .i64 0)) 3, some (37, true)⟩,
    ⟨some 40, .pick (.tmp 37) (.tmp 39) (.const (.bool false)), none⟩,
    ⟨some 41, .move (.tmp 40), none⟩,
    ⟨some 42, .move (.tmp 4), some (41, true)⟩,
    ⟨some 43, .binOp .eql 23 (.tmp 42) (.const (.int .i64 2)) 23, some (41, true)⟩,
    ⟨some 44, .pick (.tmp 41) (.tmp 43) (.const (.bool false)), none⟩,
    ⟨some 45, .move (.tmp 44), none⟩,
    ⟨some 46, .move (.tmp 6), some (45, true)⟩,
    ⟨some 47, .binOp .eql 23 (.tmp 46) (.const (.int .i64 2)) 23, some (45, true)⟩,
    ⟨some 48, .pick (.tmp 45) (.tmp 47) (.const (.bool false)), none⟩,
    ⟨some 49, .move (.tmp 48), none⟩,
    ⟨some 50, .move (.tmp 8), some (49, true)⟩,
    ⟨some 51, .binOp .eql 23 (.tmp 50) (.const (.int .i64 2)) 23, some (49, true)⟩,
    ⟨some 52, .pick (.tmp 49) (.tmp 51) (.const (.bool false)), none⟩,
    ⟨some 53, .move (.tmp 52), none⟩,
    ⟨some 54, .call { callee := .value (.func 20), args := #[], argTypes := #[] }, some (53, true)⟩,
    ⟨some 55, .pick (.tmp 53) (.tmp 54) (.const (.bool false)), none⟩,
    ⟨some 2, .assign (.tmp 55), none⟩]
@[reducible] def q10_6 : SCode := .region [⟨some 56, .move (.tmp 0), none⟩,
    ⟨some 57, .call { callee := .value (.func 46), args := #[.tmp 56], argTypes := #[22] }, none⟩,
    ⟨some 9, .assign (.tmp 57), none⟩]
@[reducible] def q10_7 : SCode := .region [⟨some 58, .move (.tmp 3), none⟩,
    ⟨some 59, .move (.tmp 9), none⟩,
    ⟨some 60, .call { callee := .value (.func 32), args := #[.tmp 58, .tmp 59, .func 34], argTypes := #[45, 45, 50] }, none⟩,
    ⟨some 61, .move (.tmp 60), none⟩,
    ⟨some 62, .move (.tmp 5), some (61, true)⟩,
    ⟨some 63, .move (.tmp 9), some (61, true)⟩,
    ⟨some 64, .call { callee := .builtin .len, args := #[.tmp 63], argTypes := #[45] }, some (61, true)⟩,
    ⟨some 65, .binOp .eql 3 (.tmp 62) (.tmp 64) 3, some (61, true)⟩,
    ⟨some 66, .pick (.tmp 61) (.tmp 65) (.const (.bool false)), none⟩,
    ⟨some 67, .move (.tmp 66), none⟩,
    ⟨some 68, .move (.tmp 7), some (67, true)⟩,
    ⟨some 69, .move (.tmp 0), some (67, true)⟩,
    ⟨some 70, .call { callee := .value (.func 47), args := #[.tmp 69], argTypes := #[22] }, some (67, true)⟩,
    ⟨some 71, .call { callee := .value (.func 34), args := #[.tmp 68, .tmp 70], argTypes := #[22, 22] }, some (67, true)⟩,
    ⟨some 72, .pick (.tmp 67) (.tmp 71) (.const (.bool false)), none⟩,
    ⟨some 73, .move (.tmp 72), none⟩,
    ⟨some 74, .move (.tmp 4), some (73, true)⟩,
    ⟨some 75, .binOp .eql 23 (.tmp 74) (.const (.int .i64 0)) 23, some (73, true)⟩,
    ⟨some 76, .pick (.tmp 73) (.tmp 75) (.const (.bool false)), none⟩,
    ⟨some 77, .move (.tmp 76), none⟩,
    ⟨some 78, .move (.tmp 6), some (77, true)⟩,
    ⟨some 79, .binOp .eql 23 (.tmp 78) (.const (.int .i64 0)) 23, some (77, true)⟩,
    ⟨some 80, .pick (.tmp 77) (.tmp 79) (.const (.bool false)), none⟩,
    ⟨some 81, .move (.tmp 80), none⟩,
    ⟨some 82, .move (.tmp 8), some (81, true)⟩,
    ⟨some 83, .binOp .eql 23 (.tmp 82) (.const (.int .i64 0)) 23, some (81, true)⟩,
    ⟨some 84, .pick (.tmp 81) (.tmp 83) (.const (.bool false)), none⟩,
    ⟨some 85, .move (.tmp 84), none⟩,
    ⟨some 86, .call { callee := .value (.func 20), args := #[], argTypes := #[] }, some (85, true)⟩,
    ⟨some 87, .pick (.tmp 85) (.tmp 86) (.const (.bool false)), none⟩,
    ⟨some 2, .assign (.tmp 87), none⟩]
def s10 : SCode := (.seq q10_0 (.seq q10_1 (.seq q10_2 (.seq q10_3 (.seq (.seq q10_4 (.cond (.tmp 30) (.seq q10_5 .ret) .skip)) (.seq q10_6 (.seq q10_7 .ret)))))))
theorem s10_strip : Yi (Ym Tryd.f10) = s10 := by kernel_rfl
theorem s10_ok : Xa 88 (Ym Tryd.f10) = true := by kernel_rfl
/-! 43: planchet order.Real -/
@[reducible] def q43_0 : SCode := .region [⟨some 2, .assign (.const (.slice none 0 0)), none⟩,
    ⟨some 3, .assign (.const (.int .i64 0)), none⟩]
@[reducible] def q43_1 : SCode := .region [⟨some 7, .move (.tmp 0), none⟩,
    ⟨some 8, .call { callee := .value (.func 64), args := #[.tmp 7], argTypes := #[22] }, none⟩,
    ⟨some 6, .move (.tmp 8), none⟩,
    ⟨some 9, .extract (.tmp 6) 0, none⟩,
    ⟨some 10, .extract (.tmp 6) 1, none⟩,
    ⟨some 4, .alloc 77, none⟩,
    ⟨none, .store 77 (.tmp 4) (.tmp 9), none⟩,
    ⟨some 5, .assign (.tmp 10), none⟩]
@[reducible] def q43_2 : SCode := .region [⟨some 11, .move (.tmp 5), none⟩,
    ⟨some 12, .unOp .not 4 (.tmp 11), none⟩]
@[reducible] def q43_3 : SCode := .region [⟨some 2, .assign (.const (.slice none 0 0)), none⟩,
    ⟨some 3, .assign (.const (.int .i64 2)), none⟩]
@[reducible] def q43_4 : SCode := .region [⟨some 13, .load 77 (.tmp 4), none⟩,
    ⟨some 14, .call { callee := .value (.func 80), args := #[.tmp 13], argTypes := #[77] }, none⟩,
    ⟨some 2, .assign (.tmp 14), none⟩,
    ⟨some 3, .assign (.const (.int .i64 0)), none⟩]
def s43 : SCode := (.seq q43_0 (.seq q43_1 (.seq (.seq q43_2 (.cond (.tmp 12) (.seq q43_3 .ret) .skip)) (.seq q43_4 .ret))))
theorem s43_strip : Yi (Ym Tryd.f43) = s43 := by kernel_rfl
theorem s43_ok : Xa 15 (Ym Tryd.f43) = true := by kernel_rfl
theorem s43_call [Tabs Tryd.prog] {args : List Value} {h : Yb} {Q : Value → Yb → Prop} (hsz : args.length ≤ 15) (hk : aw Tryd.prog 15 s43 (Zu Tryd.prog [.tmp 2, .tmp 3] Q) (Zp 0 args) h) : ACall Tryd.prog 43 args h Q :=
  Wd Tryd.func43 rfl (enters_of Tryd.func43 (by kernel_rfl) rfl) rfl rfl (by decide) s43_strip s43_ok hsz hk

/-! 44: planchet order.Dim -/
@[reducible] def q44_0 : SCode := .region [⟨some 2, .assign (.const (.int .i64 0)), none⟩,
    ⟨some 3, .assign (.const (.int .i64 0)), none⟩]
@[reducible] def q44_1 : SCode := .region [⟨some 7, .move (.tmp 0), none⟩,
    ⟨some 8, .call { callee := .value (.func 43), args := #[.tmp 7], argTypes := #[22] }, none⟩,
    ⟨some 6, .move (.tmp 8), none⟩,
    ⟨some 9, .extract (.tmp 6) 0, none⟩,
    ⟨some 10, .extract (.tmp 6) 1, none⟩,
    ⟨some 4, .assign (.tmp 9), none⟩,
    ⟨some 5, .assign (.tmp 10), none⟩]
@[reducible] def q44_2 : SCode := .region [⟨some 11, .move (.tmp 4), none⟩,
    ⟨some 12, .call { callee := .builtin .len, args := #[.tmp 11], argTypes := #[45] }, none⟩,
    ⟨some 13, .move (.tmp 5), none⟩,
    ⟨some 2, .assign (.tmp 12), none⟩,
    ⟨some 3, .assign (.tmp 13), none⟩]
def s44 : SCode := (.seq q44_0 (.seq q44_1 (.seq q44_2 .ret)))
theorem s44_strip : Yi (Ym Tryd.f44) = s44 := by kernel_rfl
theorem s44_ok : Xa 14 (Ym Tryd.f44) = true := by kernel_rfl
theorem s44_call [Tabs Tryd.prog] {args : List Value} {h : Yb} {Q : Value → Yb → Prop} (hsz : args.length ≤ 14) (hk : aw Tryd.prog 14 s44 (Zu Tryd.prog [.tmp 2, .tmp 3] Q) (Zp 0 args) h) : ACall Tryd.prog 44 args h Q :=
  Wd Tryd.func44 rfl (enters_of Tryd.func44 (by kernel_rfl) rfl) rfl rfl (by decide) s44_strip s44_ok hsz hk

/-! 46: planchet planchetref07.Real -/
@[reducible] def q46_0 : SCode := .region [⟨some 2, .assign (.const (.slice none 0 0)), none⟩]
@[reducible] def q46_1 : SCode := .region [⟨some 8, .move (.tmp 0), none⟩,
    ⟨some 9, .call { callee := .builtin .len, args := #[.tmp 8], argTypes := #[22] }, none⟩,
    ⟨some 10, .makeSlice 22 (.tmp 9) (.tmp 9), none⟩,
    ⟨some 3, .assign (.tmp 10), none⟩]
@[reducible] def q46_2 : SCode := .region [⟨some 11, .move (.tmp 0), none⟩,
    ⟨some 12, .call { callee := .builtin .len, args := #[.tmp 11], argTypes := #[22] }, none⟩,
    ⟨some 13, .move (.const (.int .i64 0)), none⟩]
@[reducible] def q46_3 : SCode := .region [⟨some 14, .binOp .lss 3 (.tmp 13) (.tmp 12) 3, none⟩]
@[reducible] def q46_4 : SCode := .region [⟨some 15, .move (.tmp 13), none⟩,
    ⟨some 4, .assign (.tmp 15), none⟩]
@[reducible] def q46_5 : SCode := .region [⟨some 16, .move (.tmp 0), none⟩,
    ⟨some 17, .call { callee := .builtin .len, args := #[.tmp 16], argTypes := #[22] }, none⟩,
    ⟨some 18, .move (.const (.int .i64 0)), none⟩]
@[reducible] def q46_6 : SCode := .region [⟨some 19, .binOp .lss 3 (.tmp 18) (.tmp 17) 3, none⟩]
@[reducible] def q46_7 : SCode := .region [⟨some 20, .move (.tmp 18), none⟩,
    ⟨some 5, .assign (.tmp 20), none⟩]
@[reducible] def q46_8 : SCode := .region [⟨some 21, .move (.tmp 0), none⟩,
    ⟨some 22, .move (.tmp 4), none⟩,
    ⟨some 23, .move (.tmp 5), none⟩,
    ⟨some 24, .call { callee := .value (.func 22), args := #[.tmp 21, .tmp 22, .tmp 23], argTypes := #[22, 3, 3] }, none⟩]
def q46_9 : SCode := .draw [⟨some 25, .move (.tmp 3), none⟩,
    ⟨some 26, .move (.tmp 4), none⟩,
    ⟨some 27, .indexAddr 22 (.tmp 25) (.tmp 26), none⟩,
    ⟨some 28, .load 3 (.tmp 27), none⟩,
    ⟨some 29, .move (.tmp 5), none⟩,
    ⟨some 30, .binOp .shl 3 (.const (.int .i64 1)) (.tmp 29) 3, none⟩,
    ⟨some 31, .binOp .or 3 (.tmp 28) (.tmp 30) 3, none⟩,
    ⟨some 32, .indexAddr 22 (.tmp 25) (.tmp 26), none⟩,
    ⟨none, .store 3 (.tmp 32) (.tmp 31), none⟩]
   [[], [], [0, 1], [2], [], [4], [3, 5], [0, 1, 0, 1, 2, 3, 4, 5, 6], [7, 6, 0, 1, 2, 3, 4, 5, 6]]
@[reducible] def q46_10 : SCode := .region [⟨some 33, .binOp .add 3 (.tmp 18) (.const (.int .i64 1)) 3, none⟩,
    ⟨some 18, .move (.tmp 33), none⟩]
def l46_0 : SCode := (.seq q46_6 (.seq (.cond (.tmp 19) .skip (.exit 2)) (.seq (.block 3 (.seq q46_7 (.seq q46_8 (.cond (.tmp 24) q46_9 .skip)))) q46_10)))
@[reducible] def q46_11 : SCode := .region [⟨some 34, .binOp .add 3 (.tmp 13) (.const (.int .i64 1)) 3, none⟩,
    ⟨some 13, .move (.tmp 34), none⟩]
def l46_1 : SCode := (.seq q46_3 (.seq (.cond (.tmp 14) .skip (.exit 0)) (.seq (.block 1 (.seq q46_4 (.seq q46_5 (.block 2 (.loop l46_0))))) q46_11)))
@[reducible] def q46_12 : SCode := .region [⟨some 6, .assign (.const (.int .i64 1)), none⟩]
@[reducible] def q46_14 : SCode := .region [⟨some 37, .move (.tmp 0), none⟩,
    ⟨some 38, .move (.tmp 0), none⟩,
    ⟨some 39, .call { callee := .value (.func 33), args := #[.tmp 38], argTypes := #[22] }, none⟩,
    ⟨some 40, .move (.tmp 3), none⟩,
    ⟨some 41, .move (.tmp 6), none⟩,
    ⟨some 42, .call { callee := .value (.func 82), args := #[.tmp 37, .tmp 39, .tmp 40, .tmp 41, .const (.int .i64 0), .const (.slice none 0 0)], argTypes := #[22, 45, 22, 3, 3, 45] }, none⟩,
    ⟨some 7, .assign (.tmp 42), none⟩]
@[reducible] def q46_15 : SCode := .region [⟨some 43, .move (.tmp 7), none⟩,
    ⟨some 44, .binOp .neq 45 (.tmp 43) (.const (.slice none 0 0)) 45, none⟩]
@[reducible] def q46_16 : SCode := .region [⟨some 45, .move (.tmp 7), none⟩,
    ⟨some 2, .assign (.tmp 45), none⟩]
@[reducible] def q46_13 : SCode := .region [⟨some 35, .move (.tmp 6), none⟩,
    ⟨some 36, .binOp .add 3 (.tmp 35) (.const (.int .i64 1)) 3, none⟩,
    ⟨some 6, .assign (.tmp 36), none⟩]
def l46_2 : SCode := (.seq (.block 5 (.seq q46_14 (.seq q46_15 (.cond (.tmp 44) (.seq q46_16 .ret) .skip)))) q46_13)
def s46 : SCode := (.seq q46_0 (.seq q46_1 (.seq (.seq q46_2 (.block 0 (.loop l46_1))) (.seq q46_12 (.block 4 (.loop l46_2))))))
theorem s46_strip : Yi (Ym Tryd.f46) = s46 := by kernel_rfl
theorem s46_ok : Xa 46 (Ym Tryd.f46) = true := by kernel_rfl
/-! 80: (planchet order.order).realizer -/
@[reducible] def q80_0 : SCode := .region [⟨some 1, .box 77 (.tmp 0), none⟩,
    ⟨some 2, .assign (.const (.slice none 0 0)), none⟩]
@[reducible] def q80_1 : SCode := .region [⟨some 15, .load 77 (.tmp 1), none⟩,
    ⟨some 16, .call { callee := .value (.func 75), args := #[.tmp 15], argTypes := #[77] }, none⟩,
    ⟨some 3, .alloc 45, none⟩,
    ⟨none, .store 45 (.tmp 3) (.tmp 16), none⟩]
@[reducible] def q80_2 : SCode := .region [⟨some 4, .alloc 120, none⟩]
@[reducible] def q80_3 : SCode := .region [⟨some 17, .load 45 (.tmp 3), none⟩,
    ⟨some 18, .call { callee := .builtin .len, args := #[.tmp 17], argTypes := #[45] }, none⟩,
    ⟨some 19, .move (.const (.int .i64 0)), none⟩]
@[reducible] def q80_4 : SCode := .region [⟨some 20, .binOp .lss 3 (.tmp 19) (.tmp 18) 3, none⟩]
@[reducible] def q80_5 : SCode := .region [⟨some 21, .indexAddr 45 (.tmp 17) (.tmp 19), none⟩,
    ⟨some 22, .load 22 (.tmp 21), none⟩,
    ⟨some 6, .assign (.tmp 22), none⟩]
def q80_6 : SCode := .draw [⟨some 23, .load 120 (.tmp 4), none⟩,
    ⟨some 24, .move (.tmp 6), none⟩,
    ⟨some 25, .call { callee := .value (.func 105), args := #[.tmp 24], argTypes := #[22] }, none⟩,
    ⟨some 26, .buildSlice 120 1 #[(0, .tmp 25)], none⟩,
    ⟨some 27, .call { callee := .builtin .append, args := #[.tmp 23, .tmp 26], argTypes := #[120, 120] }, none⟩,
    ⟨none, .store 120 (.tmp 4) (.tmp 27), none⟩]
   [[], [], [1], [2], [0, 3, 2], [4, 4, 0, 1, 2, 3, 4]]
@[reducible] def q80_7 : SCode := .region [⟨some 28, .binOp .add 3 (.tmp 19) (.const (.int .i64 1)) 3, none⟩,
    ⟨some 19, .move (.tmp 28), none⟩]
def l80_0 : SCode := (.seq q80_4 (.seq (.cond (.tmp 20) .skip (.exit 0)) (.seq (.block 1 (.seq q80_5 q80_6)) q80_7)))
@[reducible] def q80_8 : SCode := .region [⟨some 7, .alloc 22, none⟩]
@[reducible] def q80_9 : SCode := .region [⟨some 8, .alloc 123, none⟩]
@[reducible] def q80_10 : SCode := .region [⟨some 29, .makeFunc (.func 106) #[] #[.tmp 1, .tmp 3, .tmp 4, .tmp 7, .tmp 8], none⟩,
    ⟨none, .store 123 (.tmp 8) (.tmp 29), none⟩]
@[reducible] def q80_11 : SCode := .region [⟨some 9, .alloc 121, none⟩]
@[reducible] def q80_12 : SCode := .region [⟨some 30, .fieldAddr 77 (.tmp 1) 0, none⟩,
    ⟨some 31, .load 3 (.tmp 30), none⟩,
    ⟨some 32, .move (.const (.int .i64 0)), none⟩]
@[reducible] def q80_13 : SCode := .region [⟨some 33, .binOp .lss 3 (.tmp 32) (.tmp 31) 3, none⟩]
@[reducible] def q80_14 : SCode := .region [⟨some 34, .move (.tmp 32), none⟩,
    ⟨some 10, .assign (.tmp 34), none⟩]
@[reducible] def q80_15 : SCode := .region [⟨some 35, .move (.tmp 10), none⟩,
    ⟨some 36, .load 77 (.tmp 1), none⟩,
    ⟨some 37, .call { callee := .value (.func 98), args := #[.tmp 36], argTypes := #[77] }, none⟩,
    ⟨some 38, .indexAddr 121 (.tmp 9) (.tmp 35), none⟩,
    ⟨none, .store 3 (.tmp 38) (.tmp 37), none⟩]
@[reducible] def q80_16 : SCode := .region [⟨some 39, .binOp .add 3 (.tmp 32) (.const (.int .i64 1)) 3, none⟩,
    ⟨some 32, .move (.tmp 39), none⟩]
def l80_1 : SCode := (.seq q80_13 (.seq (.cond (.tmp 33) .skip (.exit 2)) (.seq (.block 3 (.seq q80_14 q80_15)) q80_16)))
@[reducible] def q80_17 : SCode := .region [⟨some 11, .assign (.const (.int .i64 1)), none⟩]
@[reducible] def q80_18 : SCode := .region [⟨some 40, .load 123 (.tmp 8), none⟩,
    ⟨some 41, .move (.tmp 11), none⟩,
    ⟨some 42, .load 121 (.tmp 9), none⟩,
    ⟨some 43, .call { callee := .value (.tmp 40), args := #[.const (.int .i64 0), .tmp 41, .tmp 42], argTypes := #[3, 3, 121] }, none⟩,
    ⟨some 44, .unOp .not 4 (.tmp 43), none⟩]
@[reducible] def q80_20 : SCode := .region [⟨none, .store 22 (.tmp 7) (.const (.slice none 0 0)), none⟩]
@[reducible] def q80_19 : SCode := .region [⟨some 45, .move (.tmp 11), none⟩,
    ⟨some 46, .binOp .add 3 (.tmp 45) (.const (.int .i64 1)) 3, none⟩,
    ⟨some 11, .assign (.tmp 46), none⟩]
def l80_2 : SCode := (.seq (.seq q80_18 (.cond (.tmp 44) .skip (.exit 4))) (.seq (.block 5 q80_20) q80_19))
@[reducible] def q80_21 : SCode := .region [⟨some 12, .assign (.const (.slice none 0 0)), none⟩]
@[reducible] def q80_22 : SCode := .region [⟨some 47, .load 22 (.tmp 7), none⟩,
    ⟨some 48, .call { callee := .builtin .len, args := #[.tmp 47], argTypes := #[22] }, none⟩,
    ⟨some 49, .move (.const (.int .i64 0)), none⟩]
@[reducible] def q80_23 : SCode := .region [⟨some 50, .binOp .lss 3 (.tmp 49) (.tmp 48) 3, none⟩]
@[reducible] def q80_24 : SCode := .region [⟨some 51, .indexAddr 22 (.tmp 47) (.tmp 49), none⟩,
    ⟨some 52, .load 3 (.tmp 51), none⟩,
    ⟨some 14, .assign (.tmp 52), none⟩]
@[reducible] def q80_25 : SCode := .region [⟨some 53, .move (.tmp 12), none⟩,
    ⟨some 54, .load 45 (.tmp 3), none⟩,
    ⟨some 55, .move (.tmp 14), none⟩,
    ⟨some 56, .indexAddr 45 (.tmp 54) (.tmp 55), none⟩,
    ⟨some 57, .load 22 (.tmp 56), none⟩,
    ⟨some 58, .buildSlice 45 1 #[(0, .tmp 57)], none⟩,
    ⟨some 59, .call { callee := .builtin .append, args := #[.tmp 53, .tmp 58], argTypes := #[45, 45] }, none⟩,
    ⟨some 12, .assign (.tmp 59), none⟩]
@[reducible] def q80_26 : SCode := .region [⟨some 60, .binOp .add 3 (.tmp 49) (.const (.int .i64 1)) 3, none⟩,
    ⟨some 49, .move (.tmp 60), none⟩]
def l80_3 : SCode := (.seq q80_23 (.seq (.cond (.tmp 50) .skip (.exit 6)) (.seq (.block 7 (.seq q80_24 q80_25)) q80_26)))
@[reducible] def q80_27 : SCode := .region [⟨some 61, .move (.tmp 12), none⟩,
    ⟨some 2, .assign (.tmp 61), none⟩]
def s80 : SCode := (.seq q80_0 (.seq q80_1 (.seq q80_2 (.seq (.seq q80_3 (.block 0 (.loop l80_0))) (.seq q80_8 (.seq q80_9 (.seq q80_10 (.seq q80_11 (.seq (.seq q80_12 (.block 2 (.loop l80_1))) (.seq (.seq q80_17 (.block 4 (.loop l80_2))) (.seq q80_21 (.seq (.seq q80_22 (.block 6 (.loop l80_3))) (.seq q80_27 .ret)))))))))))))
theorem s80_strip : Yi (Ym Tryd.f80) = s80 := by kernel_rfl
theorem s80_ok : Xa 62 (Ym Tryd.f80) = true := by kernel_rfl
/-! 82: planchet planchetref07.real -/
@[reducible] def q82_0 : SCode := .region [⟨some 12, .assign (.const (.slice none 0 0)), none⟩]
@[reducible] def q82_1 : SCode := .region [⟨some 13, .assign (.const (.bool false)), none⟩]
@[reducible] def q82_2 : SCode := .region [⟨some 23, .move (.tmp 2), none⟩,
    ⟨some 24, .call { callee := .builtin .len, args := #[.tmp 23], argTypes := #[22] }, none⟩,
    ⟨some 25, .move (.const (.int .i64 0)), none⟩]
@[reducible] def q82_3 : SCode := .region [⟨some 26, .binOp .lss 3 (.tmp 25) (.tmp 24) 3, none⟩]
@[reducible] def q82_4 : SCode := .region [⟨some 27, .indexAddr 22 (.tmp 23) (.tmp 25), none⟩,
    ⟨some 28, .load 3 (.tmp 27), none⟩,
    ⟨some 15, .assign (.tmp 28), none⟩]
@[reducible] def q82_5 : SCode := .region [⟨some 29, .move (.tmp 13), none⟩,
    ⟨some 30, .move (.tmp 29), none⟩,
    ⟨some 31, .move (.tmp 15), some (30, false)⟩,
    ⟨some 32, .binOp .neq 3 (.tmp 31) (.const (.int .i64 0)) 3, some (30, false)⟩,
    ⟨some 33, .pick (.tmp 30) (.const (.bool true)) (.tmp 32), none⟩,
    ⟨some 13, .assign (.tmp 33), none⟩]
@[reducible] def q82_6 : SCode := .region [⟨some 34, .binOp .add 3 (.tmp 25) (.const (.int .i64 1)) 3, none⟩,
    ⟨some 25, .move (.tmp 34), none⟩]
def l82_0 : SCode := (.seq q82_3 (.seq (.cond (.tmp 26) .skip (.exit 0)) (.seq (.block 1 (.seq q82_4 q82_5)) q82_6)))
@[reducible] def q82_7 : SCode := .region [⟨some 35, .move (.tmp 3), none⟩,
    ⟨some 36, .binOp .eql 3 (.tmp 35) (.const (.int .i64 0)) 3, none⟩]
@[reducible] def q82_8 : SCode := .region [⟨some 37, .move (.tmp 13), none⟩]
@[reducible] def q82_9 : SCode := .region [⟨some 12, .assign (.const (.slice none 0 0)), none⟩]
@[reducible] def q82_10 : SCode := .region [⟨some 38, .move (.tmp 5), none⟩,
    ⟨some 12, .assign (.tmp 38), none⟩]
@[reducible] def q82_11 : SCode := .region [⟨some 39, .move (.tmp 4), none⟩,
    ⟨some 16, .assign (.tmp 39), none⟩]
@[reducible] def q82_12 : SCode := .region [⟨some 40, .move (.tmp 16), none⟩,
    ⟨some 41, .move (.tmp 1), none⟩,
    ⟨some 42, .call { callee := .builtin .len, args := #[.tmp 41], argTypes := #[45] }, none⟩,
    ⟨some 43, .binOp .lss 3 (.tmp 40) (.tmp 42) 3, none⟩]
@[reducible] def q82_14 : SCode := .region [⟨some 46, .buildSlice 22 0 #[], none⟩,
    ⟨some 47, .move (.tmp 2), none⟩,
    ⟨some 48, .call { callee := .builtin .append, args := #[.tmp 46, .tmp 47], argTypes := #[22, 22] }, none⟩,
    ⟨some 17, .assign (.tmp 48), none⟩]
@[reducible] def q82_15 : SCode := .region [⟨some 49, .move (.tmp 1), none⟩,
    ⟨some 50, .move (.tmp 16), none⟩,
    ⟨some 51, .indexAddr 45 (.tmp 49) (.tmp 50), none⟩,
    ⟨some 52, .load 22 (.tmp 51), none⟩,
    ⟨some 53, .call { callee := .builtin .len, args := #[.tmp 52], argTypes := #[22] }, none⟩,
    ⟨some 54, .move (.const (.int .i64 0)), none⟩]
@[reducible] def q82_16 : SCode := .region [⟨some 55, .binOp .lss 3 (.tmp 54) (.tmp 53) 3, none⟩]
@[reducible] def q82_17 : SCode := .region [⟨some 56, .move (.tmp 54), none⟩,
    ⟨some 57, .indexAddr 22 (.tmp 52) (.tmp 54), none⟩,
    ⟨some 58, .load 3 (.tmp 57), none⟩,
    ⟨some 18, .assign (.tmp 56), none⟩,
    ⟨some 19, .assign (.tmp 58), none⟩]
@[reducible] def q82_18 : SCode := .region [⟨some 59, .move (.tmp 1), none⟩,
    ⟨some 60, .move (.tmp 16), none⟩,
    ⟨some 61, .indexAddr 45 (.tmp 59) (.tmp 60), none⟩,
    ⟨some 62, .load 22 (.tmp 61), none⟩,
    ⟨some 63, .move (.tmp 18), none⟩,
    ⟨some 64, .slice 22 (.tmp 62) none (some (.tmp 63)) none, none⟩,
    ⟨some 65, .call { callee := .builtin .len, args := #[.tmp 64], argTypes := #[22] }, none⟩,
    ⟨some 66, .move (.const (.int .i64 0)), none⟩]
@[reducible] def q82_19 : SCode := .region [⟨some 67, .binOp .lss 3 (.tmp 66) (.tmp 65) 3, none⟩]
@[reducible] def q82_20 : SCode := .region [⟨some 68, .indexAddr 22 (.tmp 64) (.tmp 66), none⟩,
    ⟨some 69, .load 3 (.tmp 68), none⟩,
    ⟨some 21, .assign (.tmp 69), none⟩]
def q82_21 : SCode := .draw [⟨some 70, .move (.tmp 17), none⟩,
    ⟨some 71, .move (.tmp 19), none⟩,
    ⟨some 72, .indexAddr 22 (.tmp 70) (.tmp 71), none⟩,
    ⟨some 73, .load 3 (.tmp 72), none⟩,
    ⟨some 74, .move (.tmp 21), none⟩,
    ⟨some 75, .binOp .shl 3 (.const (.int .i64 1)) (.tmp 74) 3, none⟩,
    ⟨some 76, .binOp .andNot 3 (.tmp 73) (.tmp 75) 3, none⟩,
    ⟨some 77, .indexAddr 22 (.tmp 70) (.tmp 71), none⟩,
    ⟨none, .store 3 (.tmp 77) (.tmp 76), none⟩]
   [[], [], [0, 1], [2], [], [4], [3, 5], [0, 1, 0, 1, 2, 3, 4, 5, 6], [7, 6, 0, 1, 2, 3, 4, 5, 6]]
@[reducible] def q82_22 : SCode := .region [⟨some 78, .binOp .add 3 (.tmp 66) (.const (.int .i64 1)) 3, none⟩,
    ⟨some 66, .move (.tmp 78), none⟩]
def l82_1 : SCode := (.seq q82_19 (.seq (.cond (.tmp 67) .skip (.exit 6)) (.seq (.block 7 (.seq q82_20 q82_21)) q82_22)))
@[reducible] def q82_23 : SCode := .region [⟨some 79, .binOp .add 3 (.tmp 54) (.const (.int .i64 1)) 3, none⟩,
    ⟨some 54, .move (.tmp 79), none⟩]
def l82_2 : SCode := (.seq q82_16 (.seq (.cond (.tmp 55) .skip (.exit 4)) (.seq (.block 5 (.seq q82_17 (.seq q82_18 (.block 6 (.loop l82_1))))) q82_23)))
def q82_24 : SCode := .draw [⟨some 80, .move (.tmp 0), none⟩,
    ⟨some 81, .move (.tmp 1), none⟩,
    ⟨some 82, .move (.tmp 17), none⟩,
    ⟨some 83, .move (.tmp 3), none⟩,
    ⟨some 84, .binOp .sub 3 (.tmp 83) (.const (.int .i64 1)) 3, none⟩,
    ⟨some 85, .move (.tmp 16), none⟩,
    ⟨some 86, .move (.tmp 5), none⟩,
    ⟨some 87, .move (.tmp 5), none⟩,
    ⟨some 88, .call { callee := .builtin .len, args := #[.tmp 87], argTypes := #[45] }, none⟩,
    ⟨some 89, .move (.tmp 5), none⟩,
    ⟨some 90, .call { callee := .builtin .len, args := #[.tmp 89], argTypes := #[45] }, none⟩,
    ⟨some 91, .slice 45 (.tmp 86) none (some (.tmp 88)) (some (.tmp 90)), none⟩,
    ⟨some 92, .move (.tmp 1), none⟩,
    ⟨some 93, .move (.tmp 16), none⟩,
    ⟨some 94, .indexAddr 45 (.tmp 92) (.tmp 93), none⟩,
    ⟨some 95, .load 22 (.tmp 94), none⟩,
    ⟨some 96, .buildSlice 45 1 #[(0, .tmp 95)], none⟩,
    ⟨some 97, .call { callee := .builtin .append, args := #[.tmp 91, .tmp 96], argTypes := #[45, 45] }, none⟩,
    ⟨some 98, .call { callee := .value (.func 82), args := #[.tmp 80, .tmp 81, .tmp 82, .tmp 84, .tmp 85, .tmp 97], argTypes := #[22, 45, 22, 3, 3, 45] }, none⟩,
    ⟨some 22, .assign (.tmp 98), none⟩]
   [[], [], [], [], [3], [], [], [], [7], [], [9], [6, 8, 10], [], [], [12, 13], [14], [15], [11, 16], [0, 1, 2, 4, 5, 17, 17], [18, 18, 0, 1, 2, 3, 4, 5, 6, 7, 8, 9, 10, 11, 12, 13, 14, 15, 16, 17, 18]]
@[reducible] def q82_25 : SCode := .region [⟨some 99, .move (.tmp 22), none⟩,
    ⟨some 100, .binOp .neq 45 (.tmp 99) (.const (.slice none 0 0)) 45, none⟩]
@[reducible] def q82_26 : SCode := .region [⟨some 101, .move (.tmp 22), none⟩,
    ⟨some 12, .assign (.tmp 101), none⟩]
@[reducible] def q82_13 : SCode := .region [⟨some 44, .move (.tmp 16), none⟩,
    ⟨some 45, .binOp .add 3 (.tmp 44) (.const (.int .i64 1)) 3, none⟩,
    ⟨some 16, .assign (.tmp 45), none⟩]
def l82_3 : SCode := (.seq (.seq q82_12 (.cond (.tmp 43) .skip (.exit 2))) (.seq (.block 3 (.seq q82_14 (.seq (.seq q82_15 (.block 4 (.loop l82_2))) (.seq q82_24 (.seq q82_25 (.cond (.tmp 100) (.seq q82_26 .ret) .skip)))))) q82_13))
@[reducible] def q82_27 : SCode := .region [⟨some 12, .assign (.const (.slice none 0 0)), none⟩]
def s82 : SCode := (.seq q82_0 (.seq q82_1 (.seq (.seq q82_2 (.block 0 (.loop l82_0))) (.seq (.seq q82_7 (.cond (.tmp 36) (.seq (.seq q82_8 (.cond (.tmp 37) (.seq q82_9 .ret) .skip)) (.seq q82_10 .ret)) .skip)) (.seq (.seq q82_11 (.block 2 (.loop l82_3))) (.seq q82_27 .ret))))))
theorem s82_strip : Yi (Ym Tryd.f82) = s82 := by kernel_rfl
theorem s82_ok : Xa 102 (Ym Tryd.f82) = true := by kernel_rfl
/-! 105: planchet order.behind -/
@[reducible] def q105_0 : SCode := .region [⟨some 2, .alloc 121, none⟩]
@[reducible] def q105_1 : SCode := .region [⟨some 3, .alloc 121, none⟩]
@[reducible] def q105_2 : SCode := .region [⟨some 8, .move (.tmp 0), none⟩,
    ⟨some 9, .call { callee := .builtin .len, args := #[.tmp 8], argTypes := #[22] }, none⟩,
    ⟨some 10, .move (.const (.int .i64 0)), none⟩]
@[reducible] def q105_3 : SCode := .region [⟨some 11, .binOp .lss 3 (.tmp 10) (.tmp 9) 3, none⟩]
@[reducible] def q105_4 : SCode := .region [⟨some 12, .move (.tmp 10), none⟩,
    ⟨some 13, .indexAddr 22 (.tmp 8) (.tmp 10), none⟩,
    ⟨some 14, .load 3 (.tmp 13), none⟩,
    ⟨some 4, .assign (.tmp 12), none⟩,
    ⟨some 5, .assign (.tmp 14), none⟩]
@[reducible] def q105_5 : SCode := .region [⟨some 15, .move (.tmp 0), none⟩,
    ⟨some 16, .move (.tmp 4), none⟩,
    ⟨some 17, .binOp .add 3 (.tmp 16) (.const (.int .i64 1)) 3, none⟩,
    ⟨some 18, .slice 22 (.tmp 15) (some (.tmp 17)) none none, none⟩,
    ⟨some 19, .call { callee := .builtin .len, args := #[.tmp 18], argTypes := #[22] }, none⟩,
    ⟨some 20, .move (.const (.int .i64 0)), none⟩]
@[reducible] def q105_6 : SCode := .region [⟨some 21, .binOp .lss 3 (.tmp 20) (.tmp 19) 3, none⟩]
@[reducible] def q105_7 : SCode := .region [⟨some 22, .indexAddr 22 (.tmp 18) (.tmp 20), none⟩,
    ⟨some 23, .load 3 (.tmp 22), none⟩,
    ⟨some 7, .assign (.tmp 23), none⟩]
def q105_8 : SCode := .draw [⟨some 24, .move (.tmp 5), none⟩,
    ⟨some 25, .indexAddr 121 (.tmp 3) (.tmp 24), none⟩,
    ⟨some 26, .load 3 (.tmp 25), none⟩,
    ⟨some 27, .move (.tmp 7), none⟩,
    ⟨some 28, .binOp .shl 3 (.const (.int .i64 1)) (.tmp 27) 3, none⟩,
    ⟨some 29, .binOp .or 3 (.tmp 26) (.tmp 28) 3, none⟩,
    ⟨some 30, .indexAddr 121 (.tmp 3) (.tmp 24), none⟩,
    ⟨none, .store 3 (.tmp 30) (.tmp 29), none⟩]
   [[], [0], [1], [], [3], [2, 4], [0, 0, 1, 2, 3, 4, 5], [6, 5, 0, 1, 2, 3, 4, 5]]
@[reducible] def q105_9 : SCode := .region [⟨some 31, .binOp .add 3 (.tmp 20) (.const (.int .i64 1)) 3, none⟩,
    ⟨some 20, .move (.tmp 31), none⟩]
def l105_0 : SCode := (.seq q105_6 (.seq (.cond (.tmp 21) .skip (.exit 2)) (.seq (.block 3 (.seq q105_7 q105_8)) q105_9)))
@[reducible] def q105_10 : SCode := .region [⟨some 32, .binOp .add 3 (.tmp 10) (.const (.int .i64 1)) 3, none⟩,
    ⟨some 10, .move (.tmp 32), none⟩]
def l105_1 : SCode := (.seq q105_3 (.seq (.cond (.tmp 11) .skip (.exit 0)) (.seq (.block 1 (.seq q105_4 (.seq q105_5 (.block 2 (.loop l105_0))))) q105_10)))
@[reducible] def q105_11 : SCode := .region [⟨some 33, .load 121 (.tmp 3), none⟩,
    ⟨none, .store 121 (.tmp 2) (.tmp 33), none⟩]
def s105 : SCode := (.seq q105_0 (.seq q105_1 (.seq (.seq q105_2 (.block 0 (.loop l105_1))) (.seq q105_11 .ret))))
theorem s105_strip : Yi (Ym Tryd.f105) = s105 := by kernel_rfl
theorem s105_ok : Xa 34 (Ym Tryd.f105) = true := by kernel_rfl
/-! 106: (planchet order.order).realizer$1 -/
@[reducible] def q106_0 : SCode := .region [⟨some 10, .box 121 (.tmp 2), none⟩,
    ⟨some 11, .assign (.const (.bool false)), none⟩]
@[reducible] def q106_1 : SCode := .region [⟨some 15, .move (.tmp 1), none⟩,
    ⟨some 16, .binOp .eql 3 (.tmp 15) (.const (.int .i64 0)) 3, none⟩]
@[reducible] def q106_2 : SCode := .region [⟨some 17, .load 121 (.tmp 10), none⟩,
    ⟨some 18, .fieldAddr 77 (.tmp 3) 1, none⟩,
    ⟨some 19, .load 75 (.tmp 18), none⟩,
    ⟨some 20, .binOp .eql 121 (.tmp 17) (.tmp 19) 121, none⟩,
    ⟨some 11, .assign (.tmp 20), none⟩]
@[reducible] def q106_3 : SCode := .region [⟨some 21, .move (.tmp 0), none⟩,
    ⟨some 12, .assign (.tmp 21), none⟩]
@[reducible] def q106_4 : SCode := .region [⟨some 22, .move (.tmp 12), none⟩,
    ⟨some 23, .load 45 (.tmp 4), none⟩,
    ⟨some 24, .call { callee := .builtin .len, args := #[.tmp 23], argTypes := #[45] }, none⟩,
    ⟨some 25, .binOp .lss 3 (.tmp 22) (.tmp 24) 3, none⟩]
@[reducible] def q106_6 : SCode := .region [⟨some 28, .load 121 (.tmp 10), none⟩,
    ⟨some 13, .alloc 121, none⟩,
    ⟨none, .store 121 (.tmp 13) (.tmp 28), none⟩]
@[reducible] def q106_7 : SCode := .region [⟨some 29, .move (.const (.int .i64 0)), none⟩]
@[reducible] def q106_8 : SCode := .region [⟨some 30, .binOp .lss 3 (.tmp 29) (.const (.int .i64 6)) 3, none⟩]
@[reducible] def q106_9 : SCode := .region [⟨some 31, .move (.tmp 29), none⟩,
    ⟨some 14, .assign (.tmp 31), none⟩]
def q106_10 : SCode := .draw [⟨some 32, .move (.tmp 14), none⟩,
    ⟨some 33, .indexAddr 121 (.tmp 13) (.tmp 32), none⟩,
    ⟨some 34, .load 3 (.tmp 33), none⟩,
    ⟨some 35, .load 120 (.tmp 5), none⟩,
    ⟨some 36, .move (.tmp 12), none⟩,
    ⟨some 37, .move (.tmp 14), none⟩,
    ⟨some 38, .indexAddr 120 (.tmp 35) (.tmp 36), none⟩,
    ⟨some 39, .indexAddr 121 (.tmp 38) (.tmp 37), none⟩,
    ⟨some 40, .load 3 (.tmp 39), none⟩,
    ⟨some 41, .binOp .and 3 (.tmp 34) (.tmp 40) 3, none⟩,
    ⟨some 42, .indexAddr 121 (.tmp 13) (.tmp 32), none⟩,
    ⟨none, .store 3 (.tmp 42) (.tmp 41), none⟩]
   [[], [0], [1], [], [], [], [3, 4], [6, 5], [7], [2, 8], [0, 0, 1, 2, 3, 4, 5, 6, 7, 8, 9], [10, 9, 0, 1, 2, 3, 4, 5, 6, 7, 8, 9]]
@[reducible] def q106_11 : SCode := .region [⟨some 43, .binOp .add 3 (.tmp 29) (.const (.int .i64 1)) 3, none⟩,
    ⟨some 29, .move (.tmp 43), none⟩]
def l106_0 : SCode := (.seq q106_8 (.seq (.cond (.tmp 30) .skip (.exit 2)) (.seq (.block 3 (.seq q106_9 q106_10)) q106_11)))
@[reducible] def q106_12 : SCode := .region [⟨some 44, .move (.tmp 1), none⟩,
    ⟨some 45, .binOp .eql 3 (.tmp 44) (.const (.int .i64 1)) 3, none⟩,
    ⟨some 46, .move (.tmp 45), none⟩,
    ⟨some 47, .load 121 (.tmp 13), some (46, true)⟩,
    ⟨some 48, .fieldAddr 77 (.tmp 3) 1, some (46, true)⟩,
    ⟨some 49, .load 75 (.tmp 48), some (46, true)⟩,
    ⟨some 50, .binOp .neq 121 (.tmp 47) (.tmp 49) 121, some (46, true)⟩,
    ⟨some 51, .pick (.tmp 46) (.tmp 50) (.const (.bool false)), none⟩]
@[reducible] def q106_13 : SCode := .region [⟨some 52, .load 22 (.tmp 6), none⟩,
    ⟨some 53, .move (.tmp 12), none⟩,
    ⟨some 54, .buildSlice 22 1 #[(0, .tmp 53)], none⟩,
    ⟨some 55, .call { callee := .builtin .append, args := #[.tmp 52, .tmp 54], argTypes := #[22, 22] }, none⟩,
    ⟨none, .store 22 (.tmp 6) (.tmp 55), none⟩]
@[reducible] def q106_14 : SCode := .region [⟨some 56, .load 123 (.tmp 7), none⟩,
    ⟨some 57, .move (.tmp 12), none⟩,
    ⟨some 58, .binOp .add 3 (.tmp 57) (.const (.int .i64 1)) 3, none⟩,
    ⟨some 59, .move (.tmp 1), none⟩,
    ⟨some 60, .binOp .sub 3 (.tmp 59) (.const (.int .i64 1)) 3, none⟩,
    ⟨some 61, .load 121 (.tmp 13), none⟩,
    ⟨some 62, .call { callee := .value (.tmp 56), args := #[.tmp 58, .tmp 60, .tmp 61], argTypes := #[3, 3, 121] }, none⟩]
@[reducible] def q106_15 : SCode := .region [⟨some 11, .assign (.const (.bool true)), none⟩]
@[reducible] def q106_16 : SCode := .region [⟨some 63, .load 22 (.tmp 6), none⟩,
    ⟨some 64, .load 22 (.tmp 6), none⟩,
    ⟨some 65, .call { callee := .builtin .len, args := #[.tmp 64], argTypes := #[22] }, none⟩,
    ⟨some 66, .binOp .sub 3 (.tmp 65) (.const (.int .i64 1)) 3, none⟩,
    ⟨some 67, .slice 22 (.tmp 63) none (some (.tmp 66)) none, none⟩,
    ⟨none, .store 22 (.tmp 6) (.tmp 67), none⟩]
@[reducible] def q106_5 : SCode := .region [⟨some 26, .move (.tmp 12), none⟩,
    ⟨some 27, .binOp .add 3 (.tmp 26) (.const (.int .i64 1)) 3, none⟩,
    ⟨some 12, .assign (.tmp 27), none⟩]
def l106_1 : SCode := (.seq (.seq q106_4 (.cond (.tmp 25) .skip (.exit 0))) (.seq (.block 1 (.seq q106_6 (.seq (.seq q106_7 (.block 2 (.loop l106_0))) (.seq (.seq q106_12 (.cond (.tmp 51) (.exit 1) .skip)) (.seq q106_13 (.seq (.seq q106_14 (.cond (.tmp 62) (.seq q106_15 .ret) .skip)) q106_16)))))) q106_5))
@[reducible] def q106_17 : SCode := .region [⟨some 11, .assign (.const (.bool false)), none⟩]
def s106 : SCode := (.seq q106_0 (.seq (.seq q106_1 (.cond (.tmp 16) (.seq q106_2 .ret) .skip)) (.seq (.seq q106_3 (.block 0 (.loop l106_1))) (.seq q106_17 .ret))))
theorem s106_strip : Yi (Ym Tryd.f106) = s106 := by kernel_rfl
theorem s106_ok : Xa 68 (Ym Tryd.f106) = true := by kernel_rfl
end Go.Proofs.Tryd.Am

namespace Go.Proofs.Tryd.Am
open Go.Am Ord
set_option maxRecDepth 100000
set_option maxHeartbeats 2000000

theorem getD_at {L : List Nat} {i : Nat} (hi : i < L.length) : L.getD i 0 = L[i] := by rw [List.getD, List.getElem?_eq_getElem hi]; rfl
/-- What stands behind i, as a set. -/
def bhF (l : List Nat) : F6 := fun i => msk (l.drop (l.idxOf i + 1))
/-- The first k are through, and m of those behind the next one. -/
def stB (l : List Nat) (k m : Nat) : F6 := fun i => if l.idxOf i < k then msk (l.drop (l.idxOf i + 1)) else if l.idxOf i = k then msk ((l.drop (k + 1)).take m) else 0
theorem stB_zero (l : List Nat) (i : Nat) : stB l 0 0 i = 0 := by
  rw [stB, if_neg (Nat.not_lt_zero _)]
  split
  · rfl
  · rfl
theorem stB_next (l : List Nat) (k : Nat) : stB l k (l.length - (k + 1)) = stB l (k + 1) 0 := by
  funext i
  simp only [stB]
  rw [List.take_of_length_le (l := l.drop (k + 1)) (by rw [List.length_drop]; omega)]
  by_cases h1 : l.idxOf i < k
  · rw [if_pos h1, if_pos (by omega)]
  · rw [if_neg h1]
    by_cases h2 : l.idxOf i = k
    · rw [if_pos h2, if_pos (by omega), h2]
    · rw [if_neg h2, if_neg (by omega)]
      split
      · rfl
      · rfl
theorem stB_all (l : List Nat) : stB l l.length 0 = bhF l := by
  funext i
  simp only [stB, bhF]
  split
  · rfl
  · rename_i h
    rw [List.drop_eq_nil_of_le (show l.length ≤ l.idxOf i + 1 by omega)]
    split
    · rfl
    · rfl
theorem idx_at {l : List Nat} (hn : l.Nodup) {k : Nat} (hk : k < l.length) : l.idxOf (l.getD k 0) = k := by
  rw [getD_at hk]
  have h1 := List.idxOf_lt_length_of_mem (List.getElem_mem hk)
  have h2 := List.getElem_idxOf h1
  exact (List.nodup_iff_pairwise_ne.1 hn |> fun hp => by
    rcases Nat.lt_trichotomy (l.idxOf l[k]) k with h3 | h3 | h3
    · exact absurd h2 (List.pairwise_iff_getElem.1 hp _ _ h1 hk h3)
    · exact h3
    · exact absurd h2.symm (List.pairwise_iff_getElem.1 hp _ _ hk h1 h3))
theorem msk_take {L : List Nat} {m : Nat} (hm : m < L.length) : msk (L.take (m + 1)) = msk (L.take m) ||| 2 ^ L.getD m 0 := by
  rw [msk, List.take_succ, List.getElem?_eq_getElem hm, Option.toList_some, List.foldl_append, getD_at hm]; rfl
theorem stB_set {l : List Nat} (hn : l.Nodup) {k m : Nat} (hk : k < l.length) (hm : m < l.length - (k + 1)) : upd6 (stB l k m) (l.getD k 0) (stB l k m (l.getD k 0) ||| 2 ^ (l.drop (k + 1)).getD m 0) = stB l k (m + 1) := by
  funext i
  have hi := idx_at hn hk
  simp only [upd6]
  by_cases h1 : i = l.getD k 0
  · rw [if_pos h1]
    subst h1
    simp only [stB, hi, if_neg (Nat.lt_irrefl k), if_true]
    rw [msk_take (by rw [List.length_drop]; exact hm)]
  · rw [if_neg h1]
    simp only [stB]
    by_cases h2 : l.idxOf i < k
    · rw [if_pos h2, if_pos h2]
    · rw [if_neg h2, if_neg h2]
      by_cases h3 : l.idxOf i = k
      · exfalso
        have h4 : l.idxOf i < l.length := by omega
        have := List.getElem_idxOf h4
        apply h1
        rw [← this, getD_at hk]
        congr 1
      · rw [if_neg h3, if_neg h3]
theorem castN_get (l : List Nat) (i : Nat) : (Wp l).getD i 0 = ((l.getD i 0 : Nat) : Int) := by
  rw [Wp, List.getD, List.getElem?_map, List.getD]; cases l[i]? <;> rfl
theorem castN_drop (l : List Nat) (k : Nat) : (Wp l).drop k = Wp (l.drop k) := by rw [Wp, Wp, List.map_drop]
theorem msk_lt6 {L : List Nat} (h : ∀ x ∈ L, x < 6) : msk L < 64 := msk_lt (n := 6) h
theorem stB_lt {l : List Nat} (h6 : ∀ x ∈ l, x < 6) (k m i : Nat) : stB l k m i < 64 := by
  simp only [stB]
  split
  · exact msk_lt6 fun x hx => h6 x (List.mem_of_mem_drop hx)
  · split
    · exact msk_lt6 fun x hx => h6 x (List.mem_of_mem_drop (List.mem_of_mem_take hx))
    · decide
theorem s105_callW [Tabs Tryd.prog] {args : List Value} {h : Yb} {Q : Value → Yb → Prop} (hsz : args.length ≤ 34) (hk : AWS Tryd.prog 34 s105 (Zu Tryd.prog [.cell 2 121] Q) (Zp 0 args) h) : ACall Tryd.prog 105 args h Q :=
  acall_w Tryd.func105 rfl (enters_of Tryd.func105 (by kernel_rfl) rfl) rfl rfl (by decide) s105_strip s105_ok hsz hk
theorem behind_call [Tabs prog] {h : Yb} {v : Value} {l : List Nat} (hv : OwnSl 3 h v (Wp l)) (hn : l.Nodup) (h6 : ∀ x ∈ l, x < 6) (hl : l.length ≤ 6) : APure prog 105 [v] h (sixV (bhF l)) := by
  refine ACall.forget (Low.six _) ?_
  obtain ⟨X, hX⟩ : ∃ X : F6 → Yb, X = fun f => h ++ [Blk.cells (sixC z6) 121 false] ++ [Blk.cells (sixC f) 121 false] := ⟨_, rfl⟩
  have x2 : ∀ f, (X f)[h.length]? = some (.cells (sixC z6) 121 false) := fun f => by rw [hX]; simp
  have x3 : ∀ f, (X f)[h.length + 1]? = some (.cells (sixC f) 121 false) := fun f => by rw [hX]; simp
  have xE : ∀ f, Ext (fun _ => False) h (X f) := fun f => by rw [hX]; simp only [List.append_assoc]; exact Ext.app _ _ _
  have xset : ∀ f g, (X f).set (h.length + 1) (.cells (sixC g) 121 false) = X g := fun f g => by
    rw [hX]; simp only [List.append_assoc]
    rw [List.set_append_right _ _ (by omega), show h.length + 1 - h.length = 1 by omega]; rfl
  have hvX : ∀ f, OwnSl 3 (X f) v (Wp l) := fun f => hv.ext (S := fun _ => False) (xE f) (fun _ _ => id)
  refine s105_callW (by simp) ?_
  simp only [s105]
  refine Yc fun N1 hN1 => ?_
  simp (maxSteps := 2000000) only [s105, ↓Za, ↓Zm, ↓Zr, ↓Ze, ↓Zk, ↓Zs, ↓Zf, ↓Zi, ↓Zg, ↓Zc, ↓Zb, ↓vdn, vup, Zl, Zn, Zh, Zj, Zo, List.map_cons, List.map_nil, cond_true, cond_false, aop, Zv, Zq, Zp, ev, sput, Zt, Zy, Ya, unK, Zd, Zw, Nat.reduceBEq, Nat.reduceAdd, Int.reduceBEq, Int.reduceBNe, Int.reduceLT, Zu, Zz, tup, tyf, We, Xg, zero_121]
  refine hN1 [(0, v), (2, .pointer (some ⟨h.length, 0, none⟩))] _ _ ?_ (by simp (maxSteps := 2000000) only [↓Za, ↓Zm, ↓Zr, ↓Ze, ↓Zk, ↓Zs, ↓Zf, ↓Zi, ↓Zg, ↓Zc, ↓Zb, ↓vdn, vup, Zl, Zn, Zh, Zj, Zo, List.map_cons, List.map_nil, cond_true, cond_false, aop, Zv, Zq, Zp, ev, sput, Zt, Zy, Ya, unK, Zd, Zw, Nat.reduceBEq, Nat.reduceAdd, Int.reduceBEq, Int.reduceBNe, Int.reduceLT, Zu, Zz, tup, tyf])
  clear hN1
  try clear N1
  refine Yc fun N2 hN2 => ?_
  simp (maxSteps := 2000000) only [s105, ↓Za, ↓Zm, ↓Zr, ↓Ze, ↓Zk, ↓Zs, ↓Zf, ↓Zi, ↓Zg, ↓Zc, ↓Zb, ↓vdn, vup, Zl, Zn, Zh, Zj, Zo, List.map_cons, List.map_nil, cond_true, cond_false, aop, Zv, Zq, Zp, ev, sput, Zt, Zy, Ya, unK, Zd, Zw, Nat.reduceBEq, Nat.reduceAdd, Int.reduceBEq, Int.reduceBNe, Int.reduceLT, Zu, Zz, tup, tyf, We, Xg, zero_121, List.length_append, List.length_singleton]
  have hX0 : h ++ [Blk.cells [.int .i64 0, .int .i64 0, .int .i64 0, .int .i64 0, .int .i64 0, .int .i64 0] 121 false] ++ [Blk.cells [.int .i64 0, .int .i64 0, .int .i64 0, .int .i64 0, .int .i64 0, .int .i64 0] 121 false] = X (stB l 0 0) := by
    rw [hX]
    show _ = h ++ [Blk.cells (sixC z6) 121 false] ++ [Blk.cells (sixC (stB l 0 0)) 121 false]
    rw [sixC_congr (g := z6) fun i _ => stB_zero l i]; rfl
  rw [hX0]
  refine hN2 [(0, v), (2, .pointer (some ⟨h.length, 0, none⟩)), (3, .pointer (some ⟨h.length + 1, 0, none⟩))] _ _ ?_ (by simp (maxSteps := 2000000) only [↓Za, ↓Zm, ↓Zr, ↓Ze, ↓Zk, ↓Zs, ↓Zf, ↓Zi, ↓Zg, ↓Zc, ↓Zb, ↓vdn, vup, Zl, Zn, Zh, Zj, Zo, List.map_cons, List.map_nil, cond_true, cond_false, aop, Zv, Zq, Zp, ev, sput, Zt, Zy, Ya, unK, Zd, Zw, Nat.reduceBEq, Nat.reduceAdd, Int.reduceBEq, Int.reduceBNe, Int.reduceLT, Zu, Zz, tup, tyf])
  clear hN2
  try clear N2
  refine Yh fun Z hZ => ?_
  refine Yc fun N3 hN3 => ?_
  simp (maxSteps := 2000000) only [s105, ↓Za, ↓Zm, ↓Zr, ↓Ze, ↓Zk, ↓Zs, ↓Zf, ↓Zi, ↓Zg, ↓Zc, ↓Zb, ↓vdn, vup, Zl, Zn, Zh, Zj, Zo, List.map_cons, List.map_nil, cond_true, cond_false, aop, Zv, Zq, Zp, ev, sput, Zt, Zy, Ya, unK, Zd, Zw, Nat.reduceBEq, Nat.reduceAdd, Int.reduceBEq, Int.reduceBNe, Int.reduceLT, Zu, Zz, tup, tyf, (hvX (stB l 0 0)).int.len, Vc]
  refine hN3 [(0, v), (2, .pointer (some ⟨h.length, 0, none⟩)), (3, .pointer (some ⟨h.length + 1, 0, none⟩)), (8, v), (9, Zx l.length), (10, .int .i64 0)] _ _ ?_ (by simp (maxSteps := 2000000) only [↓Za, ↓Zm, ↓Zr, ↓Ze, ↓Zk, ↓Zs, ↓Zf, ↓Zi, ↓Zg, ↓Zc, ↓Zb, ↓vdn, vup, Zl, Zn, Zh, Zj, Zo, List.map_cons, List.map_nil, cond_true, cond_false, aop, Zv, Zq, Zp, ev, sput, Zt, Zy, Ya, unK, Zd, Zw, Nat.reduceBEq, Nat.reduceAdd, Int.reduceBEq, Int.reduceBNe, Int.reduceLT, Zu, Zz, tup, tyf])
  clear hN3
  try clear N3
  refine Yk ?_
  refine Yf fun Q hQ => ?_
  refine Xt (γ := Nat) (fun k => k ≤ l.length) (fun k => ([(0, v), (2, .pointer (some ⟨h.length, 0, none⟩)), (3, .pointer (some ⟨h.length + 1, 0, none⟩)), (8, v), (9, Zx l.length), (10, Zx (k : Nat))], X (stB l k 0))) (fun k => l.length - k) 0 (Nat.zero_le _) (by simp (maxSteps := 2000000) only [↓Za, ↓Zm, ↓Zr, ↓Ze, ↓Zk, ↓Zs, ↓Zf, ↓Zi, ↓Zg, ↓Zc, ↓Zb, ↓vdn, vup, Zl, Zn, Zh, Zj, Zo, List.map_cons, List.map_nil, cond_true, cond_false, aop, Zv, Zq, Zp, ev, sput, Zt, Zy, Ya, unK, Zd, Zw, Nat.reduceBEq, Nat.reduceAdd, Int.reduceBEq, Int.reduceBNe, Int.reduceLT, Zu, Zz, tup, tyf, Int.natCast_zero]) rfl ?_
  rintro k hk
  refine Yf fun Q2 hQ2 => ?_
  simp only [l105_1]
  by_cases hin : (k : Int) < l.length
  · have hk' : k < l.length := by omega
    have hk2 : k < (Wp l).length := by rw [Vc]; exact hk'
    obtain ⟨i, hi⟩ : ∃ i, l.getD k 0 = i := ⟨_, rfl⟩
    have hi6 : i < 6 := hi ▸ h6 _ (getD_memN hk')
    refine Yc fun N4 hN4 => ?_
    simp (maxSteps := 2000000) only [s105, ↓Za, ↓Zm, ↓Zr, ↓Ze, ↓Zk, ↓Zs, ↓Zf, ↓Zi, ↓Zg, ↓Zc, ↓Zb, ↓vdn, vup, Zl, Zn, Zh, Zj, Zo, List.map_cons, List.map_nil, cond_true, cond_false, aop, Zv, Zq, Zp, ev, sput, Zt, Zy, Ya, unK, Zd, Zw, Nat.reduceBEq, Nat.reduceAdd, Int.reduceBEq, Int.reduceBNe, Int.reduceLT, Zu, Zz, tup, tyf, hin]
    refine hN4 [(0, v), (2, .pointer (some ⟨h.length, 0, none⟩)), (3, .pointer (some ⟨h.length + 1, 0, none⟩)), (8, v), (9, Zx l.length), (10, Zx (k : Nat)), (11, .bool true)] _ _ ?_ (by simp (maxSteps := 2000000) only [↓Za, ↓Zm, ↓Zr, ↓Ze, ↓Zk, ↓Zs, ↓Zf, ↓Zi, ↓Zg, ↓Zc, ↓Zb, ↓vdn, vup, Zl, Zn, Zh, Zj, Zo, List.map_cons, List.map_nil, cond_true, cond_false, aop, Zv, Zq, Zp, ev, sput, Zt, Zy, Ya, unK, Zd, Zw, Nat.reduceBEq, Nat.reduceAdd, Int.reduceBEq, Int.reduceBNe, Int.reduceLT, Zu, Zz, tup, tyf])
    clear hN4
    try clear N4
    refine Yc fun N5 hN5 => ?_
    simp (maxSteps := 2000000) only [s105, ↓Za, ↓Zm, ↓Zr, ↓Ze, ↓Zk, ↓Zs, ↓Zf, ↓Zi, ↓Zg, ↓Zc, ↓Zb, ↓vdn, vup, Zl, Zn, Zh, Zj, Zo, List.map_cons, List.map_nil, cond_true, cond_false, aop, Zv, Zq, Zp, ev, sput, Zt, Zy, Ya, unK, Zd, Zw, Nat.reduceBEq, Nat.reduceAdd, Int.reduceBEq, Int.reduceBNe, Int.reduceLT, Zu, Zz, tup, tyf]
    refine hN5 [(0, v), (2, .pointer (some ⟨h.length, 0, none⟩)), (3, .pointer (some ⟨h.length + 1, 0, none⟩)), (8, v), (9, Zx l.length), (10, Zx (k : Nat))] _ _ ?_ (by simp (maxSteps := 2000000) only [↓Za, ↓Zm, ↓Zr, ↓Ze, ↓Zk, ↓Zs, ↓Zf, ↓Zi, ↓Zg, ↓Zc, ↓Zb, ↓vdn, vup, Zl, Zn, Zh, Zj, Zo, List.map_cons, List.map_nil, cond_true, cond_false, aop, Zv, Zq, Zp, ev, sput, Zt, Zy, Ya, unK, Zd, Zw, Nat.reduceBEq, Nat.reduceAdd, Int.reduceBEq, Int.reduceBNe, Int.reduceLT, Zu, Zz, tup, tyf])
    clear hN5
    try clear N5
    refine Yh fun B hB => ?_
    refine Yk ?_
    refine Yc fun N6 hN6 => ?_
    simp (maxSteps := 2000000) only [s105, ↓Za, ↓Zm, ↓Zr, ↓Ze, ↓Zk, ↓Zs, ↓Zf, ↓Zi, ↓Zg, ↓Zc, ↓Zb, ↓vdn, vup, Zl, Zn, Zh, Zj, Zo, List.map_cons, List.map_nil, cond_true, cond_false, aop, Zv, Zq, Zp, ev, sput, Zt, Zy, Ya, unK, Zd, Zw, Nat.reduceBEq, Nat.reduceAdd, Int.reduceBEq, Int.reduceBNe, Int.reduceLT, Zu, Zz, tup, tyf, (hvX (stB l k 0)).int.idx Wk Xs hk2, (hvX (stB l k 0)).int.load Xb hk2, castN_get, hi]
    refine hN6 [(0, v), (2, .pointer (some ⟨h.length, 0, none⟩)), (3, .pointer (some ⟨h.length + 1, 0, none⟩)), (4, Zx (k : Nat)), (5, Zx (i : Nat)), (8, v), (9, Zx l.length), (10, Zx (k : Nat))] _ _ ?_ (by simp (maxSteps := 2000000) only [↓Za, ↓Zm, ↓Zr, ↓Ze, ↓Zk, ↓Zs, ↓Zf, ↓Zi, ↓Zg, ↓Zc, ↓Zb, ↓vdn, vup, Zl, Zn, Zh, Zj, Zo, List.map_cons, List.map_nil, cond_true, cond_false, aop, Zv, Zq, Zp, ev, sput, Zt, Zy, Ya, unK, Zd, Zw, Nat.reduceBEq, Nat.reduceAdd, Int.reduceBEq, Int.reduceBNe, Int.reduceLT, Zu, Zz, tup, tyf])
    clear hN6
    try clear N6
    refine Yc fun N7 hN7 => ?_
    simp (maxSteps := 2000000) only [s105, ↓Za, ↓Zm, ↓Zr, ↓Ze, ↓Zk, ↓Zs, ↓Zf, ↓Zi, ↓Zg, ↓Zc, ↓Zb, ↓vdn, vup, Zl, Zn, Zh, Zj, Zo, List.map_cons, List.map_nil, cond_true, cond_false, aop, Zv, Zq, Zp, ev, sput, Zt, Zy, Ya, unK, Zd, Zw, Nat.reduceBEq, Nat.reduceAdd, Int.reduceBEq, Int.reduceBNe, Int.reduceLT, Zu, Zz, tup, tyf, add1 (show k < 9223372036854775807 by omega)]
    refine OwnSl.suf (m := k + 1) hv Wk Xs (by rw [Vc]; omega) fun w hw => ?_
    rw [castN_drop] at hw
    have hwl := hw.len
    rw [Vc, List.length_drop] at hwl
    have hw6 : ∀ g, Src (X g) w (Wp (l.drop (k + 1))) := fun g => by
      rcases hw with hw | hw
      · exact .inl (Yt hw (xE g))
      · exact .inr hw
    simp (maxSteps := 2000000) only [s105, ↓Za, ↓Zm, ↓Zr, ↓Ze, ↓Zk, ↓Zs, ↓Zf, ↓Zi, ↓Zg, ↓Zc, ↓Zb, ↓vdn, vup, Zl, Zn, Zh, Zj, Zo, List.map_cons, List.map_nil, cond_true, cond_false, aop, Zv, Zq, Zp, ev, sput, Zt, Zy, Ya, unK, Zd, Zw, Nat.reduceBEq, Nat.reduceAdd, Int.reduceBEq, Int.reduceBNe, Int.reduceLT, Zu, Zz, tup, tyf, hwl]
    refine hN7 [(0, v), (2, .pointer (some ⟨h.length, 0, none⟩)), (3, .pointer (some ⟨h.length + 1, 0, none⟩)), (4, Zx (k : Nat)), (5, Zx (i : Nat)), (8, v), (9, Zx l.length), (10, Zx (k : Nat)), (18, w), (19, Zx (l.length - (k + 1) : Nat)), (20, .int .i64 0)] _ _ ?_ (by simp (maxSteps := 2000000) only [↓Za, ↓Zm, ↓Zr, ↓Ze, ↓Zk, ↓Zs, ↓Zf, ↓Zi, ↓Zg, ↓Zc, ↓Zb, ↓vdn, vup, Zl, Zn, Zh, Zj, Zo, List.map_cons, List.map_nil, cond_true, cond_false, aop, Zv, Zq, Zp, ev, sput, Zt, Zy, Ya, unK, Zd, Zw, Nat.reduceBEq, Nat.reduceAdd, Int.reduceBEq, Int.reduceBNe, Int.reduceLT, Zu, Zz, tup, tyf])
    clear hN7
    try clear N7
    refine Yk ?_
    refine Yf fun Qa hQa => ?_
    refine Xt (γ := Nat) (fun m => m ≤ l.length - (k + 1)) (fun m => ([(0, v), (2, .pointer (some ⟨h.length, 0, none⟩)), (3, .pointer (some ⟨h.length + 1, 0, none⟩)), (4, Zx (k : Nat)), (5, Zx (i : Nat)), (8, v), (9, Zx l.length), (10, Zx (k : Nat)), (18, w), (19, Zx (l.length - (k + 1) : Nat)), (20, Zx (m : Nat))], X (stB l k m))) (fun m => l.length - (k + 1) - m) 0 (Nat.zero_le _) (by simp (maxSteps := 2000000) only [↓Za, ↓Zm, ↓Zr, ↓Ze, ↓Zk, ↓Zs, ↓Zf, ↓Zi, ↓Zg, ↓Zc, ↓Zb, ↓vdn, vup, Zl, Zn, Zh, Zj, Zo, List.map_cons, List.map_nil, cond_true, cond_false, aop, Zv, Zq, Zp, ev, sput, Zt, Zy, Ya, unK, Zd, Zw, Nat.reduceBEq, Nat.reduceAdd, Int.reduceBEq, Int.reduceBNe, Int.reduceLT, Zu, Zz, tup, tyf, Int.natCast_zero]) rfl ?_
    rintro m hm
    refine Yf fun Qb hQb => ?_
    simp only [l105_0]
    by_cases hjin : (m : Int) < ((l.length - (k + 1) : Nat) : Int)
    · have hm' : m < l.length - (k + 1) := by omega
      have hmd : m < (l.drop (k + 1)).length := by rw [List.length_drop]; exact hm'
      have hm2 : m < (Wp (l.drop (k + 1))).length := by rw [Vc]; exact hmd
      obtain ⟨j, hj⟩ : ∃ j, (l.drop (k + 1)).getD m 0 = j := ⟨_, rfl⟩
      have hj6 : j < 6 := hj ▸ h6 _ (List.mem_of_mem_drop (getD_memN hmd))
      have hwi := (hw6 (stB l k m)).int (by intro h; rw [h] at hm2; simp at hm2)
      have hset := stB_set hn hk' hm'
      rw [hi, hj] at hset
      have hor : Wm .or .i64 ((stB l k m i : Nat) : Int) (2 ^ j) = ((stB l k m i ||| 2 ^ j : Nat) : Int) := by
        have h1 := stB_lt h6 k m i
        have h2 : (2 : Nat) ^ j ≤ 2 ^ 6 := Nat.pow_le_pow_right (by decide) (by omega)
        have := bitsV_or (a := stB l k m i) (b := 2 ^ j) (by omega) (by omega)
        rw [Wt] at this; exact this
      refine Yc fun N8 hN8 => ?_
      simp (maxSteps := 2000000) only [s105, ↓Za, ↓Zm, ↓Zr, ↓Ze, ↓Zk, ↓Zs, ↓Zf, ↓Zi, ↓Zg, ↓Zc, ↓Zb, ↓vdn, vup, Zl, Zn, Zh, Zj, Zo, List.map_cons, List.map_nil, cond_true, cond_false, aop, Zv, Zq, Zp, ev, sput, Zt, Zy, Ya, unK, Zd, Zw, Nat.reduceBEq, Nat.reduceAdd, Int.reduceBEq, Int.reduceBNe, Int.reduceLT, Zu, Zz, tup, tyf, hjin]
      refine hN8 [(0, v), (2, .pointer (some ⟨h.length, 0, none⟩)), (3, .pointer (some ⟨h.length + 1, 0, none⟩)), (4, Zx (k : Nat)), (5, Zx (i : Nat)), (8, v), (9, Zx l.length), (10, Zx (k : Nat)), (18, w), (19, Zx (l.length - (k + 1) : Nat)), (20, Zx (m : Nat)), (21, .bool true)] _ _ ?_ (by simp (maxSteps := 2000000) only [↓Za, ↓Zm, ↓Zr, ↓Ze, ↓Zk, ↓Zs, ↓Zf, ↓Zi, ↓Zg, ↓Zc, ↓Zb, ↓vdn, vup, Zl, Zn, Zh, Zj, Zo, List.map_cons, List.map_nil, cond_true, cond_false, aop, Zv, Zq, Zp, ev, sput, Zt, Zy, Ya, unK, Zd, Zw, Nat.reduceBEq, Nat.reduceAdd, Int.reduceBEq, Int.reduceBNe, Int.reduceLT, Zu, Zz, tup, tyf])
      clear hN8
      try clear N8
      refine Yc fun N9 hN9 => ?_
      simp (maxSteps := 2000000) only [s105, ↓Za, ↓Zm, ↓Zr, ↓Ze, ↓Zk, ↓Zs, ↓Zf, ↓Zi, ↓Zg, ↓Zc, ↓Zb, ↓vdn, vup, Zl, Zn, Zh, Zj, Zo, List.map_cons, List.map_nil, cond_true, cond_false, aop, Zv, Zq, Zp, ev, sput, Zt, Zy, Ya, unK, Zd, Zw, Nat.reduceBEq, Nat.reduceAdd, Int.reduceBEq, Int.reduceBNe, Int.reduceLT, Zu, Zz, tup, tyf]
      refine hN9 [(0, v), (2, .pointer (some ⟨h.length, 0, none⟩)), (3, .pointer (some ⟨h.length + 1, 0, none⟩)), (4, Zx (k : Nat)), (5, Zx (i : Nat)), (8, v), (9, Zx l.length), (10, Zx (k : Nat)), (18, w), (19, Zx (l.length - (k + 1) : Nat)), (20, Zx (m : Nat))] _ _ ?_ (by simp (maxSteps := 2000000) only [↓Za, ↓Zm, ↓Zr, ↓Ze, ↓Zk, ↓Zs, ↓Zf, ↓Zi, ↓Zg, ↓Zc, ↓Zb, ↓vdn, vup, Zl, Zn, Zh, Zj, Zo, List.map_cons, List.map_nil, cond_true, cond_false, aop, Zv, Zq, Zp, ev, sput, Zt, Zy, Ya, unK, Zd, Zw, Nat.reduceBEq, Nat.reduceAdd, Int.reduceBEq, Int.reduceBNe, Int.reduceLT, Zu, Zz, tup, tyf])
      clear hN9
      try clear N9
      refine Yh fun D hD => ?_
      refine Yk ?_
      refine Yc fun N10 hN10 => ?_
      simp (maxSteps := 2000000) only [s105, ↓Za, ↓Zm, ↓Zr, ↓Ze, ↓Zk, ↓Zs, ↓Zf, ↓Zi, ↓Zg, ↓Zc, ↓Zb, ↓vdn, vup, Zl, Zn, Zh, Zj, Zo, List.map_cons, List.map_nil, cond_true, cond_false, aop, Zv, Zq, Zp, ev, sput, Zt, Zy, Ya, unK, Zd, Zw, Nat.reduceBEq, Nat.reduceAdd, Int.reduceBEq, Int.reduceBNe, Int.reduceLT, Zu, Zz, tup, tyf, hwi.idx Wk Xs hm2, hwi.load Xb hm2, castN_get, hj]
      refine hN10 [(0, v), (2, .pointer (some ⟨h.length, 0, none⟩)), (3, .pointer (some ⟨h.length + 1, 0, none⟩)), (4, Zx (k : Nat)), (5, Zx (i : Nat)), (7, Zx (j : Nat)), (8, v), (9, Zx l.length), (10, Zx (k : Nat)), (18, w), (19, Zx (l.length - (k + 1) : Nat)), (20, Zx (m : Nat))] _ _ ?_ (by simp (maxSteps := 2000000) only [↓Za, ↓Zm, ↓Zr, ↓Ze, ↓Zk, ↓Zs, ↓Zf, ↓Zi, ↓Zg, ↓Zc, ↓Zb, ↓vdn, vup, Zl, Zn, Zh, Zj, Zo, List.map_cons, List.map_nil, cond_true, cond_false, aop, Zv, Zq, Zp, ev, sput, Zt, Zy, Ya, unK, Zd, Zw, Nat.reduceBEq, Nat.reduceAdd, Int.reduceBEq, Int.reduceBNe, Int.reduceLT, Zu, Zz, tup, tyf])
      clear hN10
      try clear N10
      refine Yl ?_
      simp only [q105_8]
      refine Xx [] (by kernel_rfl) (by kernel_rfl) (by kernel_rfl) (by kernel_rfl) ?_
      simp (maxSteps := 2000000) only [s105, ↓Za, ↓Zm, ↓Zr, ↓Ze, ↓Zk, ↓Zs, ↓Zf, ↓Zi, ↓Zg, ↓Zc, ↓Zb, ↓vdn, vup, Zl, Zn, Zh, Zj, Zo, List.map_cons, List.map_nil, cond_true, cond_false, aop, Zv, Zq, Zp, ev, sput, Zt, Zy, Ya, unK, Zd, Zw, Nat.reduceBEq, Nat.reduceAdd, Int.reduceBEq, Int.reduceBNe, Int.reduceLT, Zu, Zz, tup, tyf, six_idx und_121 Xs hi6, Nat.zero_add, six_load1 (x3 (stB l k m)) Xb hi6, shl1 (show j ≤ 62 by omega), hor, Int.natCast_nonneg, six_store1 (x3 (stB l k m)) Xb hi6, hset, xset]
      refine hD [(0, v), (2, .pointer (some ⟨h.length, 0, none⟩)), (3, .pointer (some ⟨h.length + 1, 0, none⟩)), (4, Zx (k : Nat)), (5, Zx (i : Nat)), (8, v), (9, Zx l.length), (10, Zx (k : Nat)), (18, w), (19, Zx (l.length - (k + 1) : Nat)), (20, Zx (m : Nat))] _ _ ?_ (by simp (maxSteps := 2000000) only [↓Za, ↓Zm, ↓Zr, ↓Ze, ↓Zk, ↓Zs, ↓Zf, ↓Zi, ↓Zg, ↓Zc, ↓Zb, ↓vdn, vup, Zl, Zn, Zh, Zj, Zo, List.map_cons, List.map_nil, cond_true, cond_false, aop, Zv, Zq, Zp, ev, sput, Zt, Zy, Ya, unK, Zd, Zw, Nat.reduceBEq, Nat.reduceAdd, Int.reduceBEq, Int.reduceBNe, Int.reduceLT, Zu, Zz, tup, tyf])
      clear hD
      try clear D
      refine Yl ?_
      simp (maxSteps := 2000000) only [s105, ↓Za, ↓Zm, ↓Zr, ↓Ze, ↓Zk, ↓Zs, ↓Zf, ↓Zi, ↓Zg, ↓Zc, ↓Zb, ↓vdn, vup, Zl, Zn, Zh, Zj, Zo, List.map_cons, List.map_nil, cond_true, cond_false, aop, Zv, Zq, Zp, ev, sput, Zt, Zy, Ya, unK, Zd, Zw, Nat.reduceBEq, Nat.reduceAdd, Int.reduceBEq, Int.reduceBNe, Int.reduceLT, Zu, Zz, tup, tyf, add1 (show m < 9223372036854775807 by omega)]
      exact hQb _ _ _ ⟨m + 1, hm', by omega, by simp (maxSteps := 2000000) only [↓Za, ↓Zm, ↓Zr, ↓Ze, ↓Zk, ↓Zs, ↓Zf, ↓Zi, ↓Zg, ↓Zc, ↓Zb, ↓vdn, vup, Zl, Zn, Zh, Zj, Zo, List.map_cons, List.map_nil, cond_true, cond_false, aop, Zv, Zq, Zp, ev, sput, Zt, Zy, Ya, unK, Zd, Zw, Nat.reduceBEq, Nat.reduceAdd, Int.reduceBEq, Int.reduceBNe, Int.reduceLT, Zu, Zz, tup, tyf], rfl⟩
    · obtain rfl : m = l.length - (k + 1) := by omega
      refine Yc fun N11 hN11 => ?_
      simp (maxSteps := 2000000) only [s105, ↓Za, ↓Zm, ↓Zr, ↓Ze, ↓Zk, ↓Zs, ↓Zf, ↓Zi, ↓Zg, ↓Zc, ↓Zb, ↓vdn, vup, Zl, Zn, Zh, Zj, Zo, List.map_cons, List.map_nil, cond_true, cond_false, aop, Zv, Zq, Zp, ev, sput, Zt, Zy, Ya, unK, Zd, Zw, Nat.reduceBEq, Nat.reduceAdd, Int.reduceBEq, Int.reduceBNe, Int.reduceLT, Zu, Zz, tup, tyf, hjin]
      refine hN11 [(0, v), (2, .pointer (some ⟨h.length, 0, none⟩)), (3, .pointer (some ⟨h.length + 1, 0, none⟩)), (4, Zx (k : Nat)), (5, Zx (i : Nat)), (8, v), (9, Zx l.length), (10, Zx (k : Nat)), (18, w), (19, Zx (l.length - (k + 1) : Nat)), (20, Zx (l.length - (k + 1) : Nat)), (21, .bool false)] _ _ ?_ (by simp (maxSteps := 2000000) only [↓Za, ↓Zm, ↓Zr, ↓Ze, ↓Zk, ↓Zs, ↓Zf, ↓Zi, ↓Zg, ↓Zc, ↓Zb, ↓vdn, vup, Zl, Zn, Zh, Zj, Zo, List.map_cons, List.map_nil, cond_true, cond_false, aop, Zv, Zq, Zp, ev, sput, Zt, Zy, Ya, unK, Zd, Zw, Nat.reduceBEq, Nat.reduceAdd, Int.reduceBEq, Int.reduceBNe, Int.reduceLT, Zu, Zz, tup, tyf])
      clear hN11
      try clear N11
      refine Yc fun N12 hN12 => ?_
      simp (maxSteps := 2000000) only [s105, ↓Za, ↓Zm, ↓Zr, ↓Ze, ↓Zk, ↓Zs, ↓Zf, ↓Zi, ↓Zg, ↓Zc, ↓Zb, ↓vdn, vup, Zl, Zn, Zh, Zj, Zo, List.map_cons, List.map_nil, cond_true, cond_false, aop, Zv, Zq, Zp, ev, sput, Zt, Zy, Ya, unK, Zd, Zw, Nat.reduceBEq, Nat.reduceAdd, Int.reduceBEq, Int.reduceBNe, Int.reduceLT, Zu, Zz, tup, tyf]
      refine hQb _ _ _ (hQa _ _ _ ?_)
      simp (maxSteps := 2000000) only [s105, ↓Za, ↓Zm, ↓Zr, ↓Ze, ↓Zk, ↓Zs, ↓Zf, ↓Zi, ↓Zg, ↓Zc, ↓Zb, ↓vdn, vup, Zl, Zn, Zh, Zj, Zo, List.map_cons, List.map_nil, cond_true, cond_false, aop, Zv, Zq, Zp, ev, sput, Zt, Zy, Ya, unK, Zd, Zw, Nat.reduceBEq, Nat.reduceAdd, Int.reduceBEq, Int.reduceBNe, Int.reduceLT, Zu, Zz, tup, tyf, if_true]
      rw [stB_next]
      refine hB [(0, v), (2, .pointer (some ⟨h.length, 0, none⟩)), (3, .pointer (some ⟨h.length + 1, 0, none⟩)), (8, v), (9, Zx l.length), (10, Zx (k : Nat))] _ _ ?_ (by simp (maxSteps := 2000000) only [↓Za, ↓Zm, ↓Zr, ↓Ze, ↓Zk, ↓Zs, ↓Zf, ↓Zi, ↓Zg, ↓Zc, ↓Zb, ↓vdn, vup, Zl, Zn, Zh, Zj, Zo, List.map_cons, List.map_nil, cond_true, cond_false, aop, Zv, Zq, Zp, ev, sput, Zt, Zy, Ya, unK, Zd, Zw, Nat.reduceBEq, Nat.reduceAdd, Int.reduceBEq, Int.reduceBNe, Int.reduceLT, Zu, Zz, tup, tyf])
      clear hB
      try clear B
      refine Yl ?_
      simp (maxSteps := 2000000) only [s105, ↓Za, ↓Zm, ↓Zr, ↓Ze, ↓Zk, ↓Zs, ↓Zf, ↓Zi, ↓Zg, ↓Zc, ↓Zb, ↓vdn, vup, Zl, Zn, Zh, Zj, Zo, List.map_cons, List.map_nil, cond_true, cond_false, aop, Zv, Zq, Zp, ev, sput, Zt, Zy, Ya, unK, Zd, Zw, Nat.reduceBEq, Nat.reduceAdd, Int.reduceBEq, Int.reduceBNe, Int.reduceLT, Zu, Zz, tup, tyf, add1 (show k < 9223372036854775807 by omega)]
      exact hQ2 _ _ _ ⟨k + 1, hk', by omega, by simp (maxSteps := 2000000) only [↓Za, ↓Zm, ↓Zr, ↓Ze, ↓Zk, ↓Zs, ↓Zf, ↓Zi, ↓Zg, ↓Zc, ↓Zb, ↓vdn, vup, Zl, Zn, Zh, Zj, Zo, List.map_cons, List.map_nil, cond_true, cond_false, aop, Zv, Zq, Zp, ev, sput, Zt, Zy, Ya, unK, Zd, Zw, Nat.reduceBEq, Nat.reduceAdd, Int.reduceBEq, Int.reduceBNe, Int.reduceLT, Zu, Zz, tup, tyf], rfl⟩
  · obtain rfl : k = l.length := by omega
    refine Yc fun N13 hN13 => ?_
    simp (maxSteps := 2000000) only [s105, ↓Za, ↓Zm, ↓Zr, ↓Ze, ↓Zk, ↓Zs, ↓Zf, ↓Zi, ↓Zg, ↓Zc, ↓Zb, ↓vdn, vup, Zl, Zn, Zh, Zj, Zo, List.map_cons, List.map_nil, cond_true, cond_false, aop, Zv, Zq, Zp, ev, sput, Zt, Zy, Ya, unK, Zd, Zw, Nat.reduceBEq, Nat.reduceAdd, Int.reduceBEq, Int.reduceBNe, Int.reduceLT, Zu, Zz, tup, tyf, hin]
    refine hN13 [(0, v), (2, .pointer (some ⟨h.length, 0, none⟩)), (3, .pointer (some ⟨h.length + 1, 0, none⟩)), (8, v), (9, Zx l.length), (10, Zx l.length), (11, .bool false)] _ _ ?_ (by simp (maxSteps := 2000000) only [↓Za, ↓Zm, ↓Zr, ↓Ze, ↓Zk, ↓Zs, ↓Zf, ↓Zi, ↓Zg, ↓Zc, ↓Zb, ↓vdn, vup, Zl, Zn, Zh, Zj, Zo, List.map_cons, List.map_nil, cond_true, cond_false, aop, Zv, Zq, Zp, ev, sput, Zt, Zy, Ya, unK, Zd, Zw, Nat.reduceBEq, Nat.reduceAdd, Int.reduceBEq, Int.reduceBNe, Int.reduceLT, Zu, Zz, tup, tyf])
    clear hN13
    try clear N13
    refine Yc fun N14 hN14 => ?_
    simp (maxSteps := 2000000) only [s105, ↓Za, ↓Zm, ↓Zr, ↓Ze, ↓Zk, ↓Zs, ↓Zf, ↓Zi, ↓Zg, ↓Zc, ↓Zb, ↓vdn, vup, Zl, Zn, Zh, Zj, Zo, List.map_cons, List.map_nil, cond_true, cond_false, aop, Zv, Zq, Zp, ev, sput, Zt, Zy, Ya, unK, Zd, Zw, Nat.reduceBEq, Nat.reduceAdd, Int.reduceBEq, Int.reduceBNe, Int.reduceLT, Zu, Zz, tup, tyf]
    refine hQ2 _ _ _ (hQ _ _ _ ?_)
    simp (maxSteps := 2000000) only [s105, ↓Za, ↓Zm, ↓Zr, ↓Ze, ↓Zk, ↓Zs, ↓Zf, ↓Zi, ↓Zg, ↓Zc, ↓Zb, ↓vdn, vup, Zl, Zn, Zh, Zj, Zo, List.map_cons, List.map_nil, cond_true, cond_false, aop, Zv, Zq, Zp, ev, sput, Zt, Zy, Ya, unK, Zd, Zw, Nat.reduceBEq, Nat.reduceAdd, Int.reduceBEq, Int.reduceBNe, Int.reduceLT, Zu, Zz, tup, tyf, if_true]
    rw [stB_all]
    refine hZ [(0, v), (2, .pointer (some ⟨h.length, 0, none⟩)), (3, .pointer (some ⟨h.length + 1, 0, none⟩))] _ _ ?_ (by simp (maxSteps := 2000000) only [↓Za, ↓Zm, ↓Zr, ↓Ze, ↓Zk, ↓Zs, ↓Zf, ↓Zi, ↓Zg, ↓Zc, ↓Zb, ↓vdn, vup, Zl, Zn, Zh, Zj, Zo, List.map_cons, List.map_nil, cond_true, cond_false, aop, Zv, Zq, Zp, ev, sput, Zt, Zy, Ya, unK, Zd, Zw, Nat.reduceBEq, Nat.reduceAdd, Int.reduceBEq, Int.reduceBNe, Int.reduceLT, Zu, Zz, tup, tyf])
    clear hZ
    try clear Z
    have sh : shp prog 121 = some (some 6) := shp_121
    refine Yl ?_
    simp (maxSteps := 2000000) only [s105, ↓Za, ↓Zm, ↓Zr, ↓Ze, ↓Zk, ↓Zs, ↓Zf, ↓Zi, ↓Zg, ↓Zc, ↓Zb, ↓vdn, vup, Zl, Zn, Zh, Zj, Zo, List.map_cons, List.map_nil, cond_true, cond_false, aop, Zv, Zq, Zp, ev, sput, Zt, Zy, Ya, unK, Zd, Zw, Nat.reduceBEq, Nat.reduceAdd, Int.reduceBEq, Int.reduceBNe, Int.reduceLT, Zu, Zz, tup, tyf, six_load (x3 (bhF l)) sh, six_store (x2 (bhF l)) rfl sh]
    simp (maxSteps := 2000000) only [s105, ↓Za, ↓Zm, ↓Zr, ↓Ze, ↓Zk, ↓Zs, ↓Zf, ↓Zi, ↓Zg, ↓Zc, ↓Zb, ↓vdn, vup, Zl, Zn, Zh, Zj, Zo, List.map_cons, List.map_nil, cond_true, cond_false, aop, Zv, Zq, Zp, ev, sput, Zt, Zy, Ya, unK, Zd, Zw, Nat.reduceBEq, Nat.reduceAdd, Int.reduceBEq, Int.reduceBNe, Int.reduceLT, Zu, Zz, tup, tyf, six_load (Xw (Yn (x2 (bhF l))) _) sh]
    exact (xE _).set_ge (Nat.le_refl _) _
end Go.Proofs.Tryd.Am

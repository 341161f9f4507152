/-
  sure: Join and Sum, by the program and by the reference.
  sure: two graphs beside each other, by the program and by the reference.
  sure: the law SureJoins.
  Printed by gen.py: the code of some functions, without what no step looks at; held against the program's own by the kernel.
  sure: the law SurePairs.
  sure: weights of joined graphs.
  Printed by gen.py: the code of some functions, without what no step looks at; held against the program's own by the kernel.
  sure: the law SureMultiplies.
-/
import Derived.Test.YtaagkbbphgdcdaaDoorPk10
import Derived.Test.YtaagkbbphgdcdaaDoorPk7
import Derived.Test.YtaagkbbphgdcdaaDoorPk3
import Derived.Test.YtaagkbbphgdcdaaDoorProg
import Derived.KernelRfl
import Derived.Shelf.Abstract
set_option linter.all false
namespace Go.Proofs.Tryd.Am
open Go.Am Sr
set_option maxRecDepth 100000
set_option maxHeartbeats 1000000

def joinR (h' : Yd) (xs ys : List Int) (r : Value) : Prop :=
  if grs xs = true ∧ grs ys = true then (if xs.length * ys.length ≤ 6 then ∃ u, r = .tuple #[u, .int .i64 0] ∧ IntSl h' u (joinL xs ys) else r = .tuple #[.slice none 0 0, .int .i64 6]) else r = .tuple #[.slice none 0 0, .int .i64 2]
theorem set_app2 (h : Yd) (A B C : Blk) : (h ++ [A] ++ [B]).set h.length C = h ++ [C] ++ [B] := by
  rw [List.set_append_left _ _ (by simp), set_last]

theorem s31_callW [Tabs Tryd.prog] {args : List Value} {h : Yd} {Q : Value → Yd → Prop} (hsz : args.length ≤ 36) (hk : AWS Tryd.prog 36 s31 (Zv Tryd.prog [.tmp 4, .tmp 5] Q) (Zp 0 args) h) : ACall Tryd.prog 31 args h Q :=
  Xq Tryd.func31 rfl (enters_of Tryd.func31 (by kernel_rfl) rfl) rfl rfl (by decide) s31_strip s31_ok hsz hk
theorem join_call [Tabs prog] {h : Yd} {v w : Value} {xs ys : List Int} (hv : IntSl h v xs) (hl : xs.length < 9223372036854775808) (hx : ∀ x ∈ xs, -9223372036854775808 ≤ x ∧ x < 9223372036854775808)
    (hw : IntSl h w ys) (hl2 : ys.length < 9223372036854775808) (hx2 : ∀ x ∈ ys, -9223372036854775808 ≤ x ∧ x < 9223372036854775808) : ACall prog 31 [v, w] h fun r h' => Ext (fun _ => False) h h' ∧ joinR h' xs ys r := by
  refine s31_callW (by simp) ?_
  simp only [s31]
  refine Yc fun N1 hN1 => ?_
  simp (maxSteps := 2000000) only [s31, ↓Za, ↓Zk, ↓Zs, ↓Ze, ↓Zj, ↓Zt, ↓Zg, ↓Zm, ↓Zf, ↓Zc, ↓Zb, ↓vdn, vup, Zo, Zh, Zi, Zn, Zl, List.map_cons, List.map_nil, cond_true, cond_false, aop, Zw, Zr, Zp, ev, sput, Zu, Zz, Yb, unK, Zd, Zx, Nat.reduceBEq, Nat.reduceAdd, Int.reduceBEq, Int.reduceBNe, Int.reduceLT, Zv, Ya, tup, tyf]
  refine hN1 [(0, v), (1, w), (4, .slice none 0 0), (5, .int .i64 0)] _ _ ?_ (by simp (maxSteps := 2000000) only [↓Za, ↓Zk, ↓Zs, ↓Ze, ↓Zj, ↓Zt, ↓Zg, ↓Zm, ↓Zf, ↓Zc, ↓Zb, ↓vdn, vup, Zo, Zh, Zi, Zn, Zl, List.map_cons, List.map_nil, cond_true, cond_false, aop, Zw, Zr, Zp, ev, sput, Zu, Zz, Yb, unK, Zd, Zx, Nat.reduceBEq, Nat.reduceAdd, Int.reduceBEq, Int.reduceBNe, Int.reduceLT, Zv, Ya, tup, tyf])
  clear hN1
  try clear N1
  have st1 : ∀ {K : Yd → Prop}, Xp prog (h ++ [Blk.cells [.slice none 0 0] 56 false] ++ [Blk.cells [.slice none 0 0] 56 false]) 56 (.pointer (some ⟨h.length, 0, none⟩)) v K = K (h ++ [.cells [v] 56 false] ++ [.cells [.slice none 0 0] 56 false]) := fun {K} => by
    rw [store1 (Vd (Xa h _) _) shp_56 (intSl_one hv), set_app2]
  have st2 : ∀ {K : Yd → Prop}, Xp prog (h ++ [Blk.cells [v] 56 false] ++ [Blk.cells [.slice none 0 0] 56 false]) 56 (.pointer (some ⟨(h ++ [Blk.cells [.slice none 0 0] 56 false]).length, 0, none⟩)) w K = K (h ++ [.cells [v] 56 false] ++ [.cells [w] 56 false]) := fun {K} => by
    rw [show (h ++ [Blk.cells [.slice none 0 0] 56 false]).length = (h ++ [Blk.cells [v] 56 false]).length by simp, store1 (Xa _ _) shp_56 (intSl_one hw), set_last]
  refine Yc fun N2 hN2 => ?_
  simp (maxSteps := 2000000) only [s31, ↓Za, ↓Zk, ↓Zs, ↓Ze, ↓Zj, ↓Zt, ↓Zg, ↓Zm, ↓Zf, ↓Zc, ↓Zb, ↓vdn, vup, Zo, Zh, Zi, Zn, Zl, List.map_cons, List.map_nil, cond_true, cond_false, aop, Zw, Zr, Zp, ev, sput, Zu, Zz, Yb, unK, Zd, Zx, Nat.reduceBEq, Nat.reduceAdd, Int.reduceBEq, Int.reduceBNe, Int.reduceLT, Zv, Ya, tup, tyf, Wm, Xv, zero_56, st1, st2]
  refine hN2 [(0, v), (1, w), (4, .slice none 0 0), (5, .int .i64 0), (6, pt h.length), (7, pt (h ++ [Blk.cells [.slice none 0 0] 56 false]).length)] _ _ ?_ (by simp (maxSteps := 2000000) only [↓Za, ↓Zk, ↓Zs, ↓Ze, ↓Zj, ↓Zt, ↓Zg, ↓Zm, ↓Zf, ↓Zc, ↓Zb, ↓vdn, vup, Zo, Zh, Zi, Zn, Zl, List.map_cons, List.map_nil, cond_true, cond_false, aop, Zw, Zr, Zp, ev, sput, Zu, Zz, Yb, unK, Zd, Zx, Nat.reduceBEq, Nat.reduceAdd, Int.reduceBEq, Int.reduceBNe, Int.reduceLT, Zv, Ya, tup, tyf])
  clear hN2
  try clear N2
  have hE : Ext (fun _ => False) h (h ++ [Blk.cells [v] 56 false] ++ [.cells [w] 56 false]) := (Ext.app _ _ _).trans (Ext.app _ _ _)
  have b6 : (h ++ [Blk.cells [v] 56 false] ++ [.cells [w] 56 false])[h.length]? = some (.cells [v] 56 false) := Vd (Xa h _) _
  have b7 : (h ++ [Blk.cells [v] 56 false] ++ [.cells [w] 56 false])[(h ++ [Blk.cells [.slice none 0 0] 56 false]).length]? = some (.cells [w] 56 false) := by
    rw [show (h ++ [Blk.cells [.slice none 0 0] 56 false]).length = (h ++ [Blk.cells [v] 56 false]).length by simp]; exact Xa _ _
  clear st1 st2
  generalize h ++ [Blk.cells [v] 56 false] ++ [.cells [w] 56 false] = H at hE b6 b7 ⊢
  generalize (h ++ [Blk.cells [.slice none 0 0] 56 false]).length = n7 at b7 ⊢
  generalize h.length = n6 at b6 ⊢
  refine Yc fun M hM => ?_
  simp (maxSteps := 2000000) only [s31, ↓Za, ↓Zk, ↓Zs, ↓Ze, ↓Zj, ↓Zt, ↓Zg, ↓Zm, ↓Zf, ↓Zc, ↓Zb, ↓vdn, vup, Zo, Zh, Zi, Zn, Zl, List.map_cons, List.map_nil, cond_true, cond_false, aop, Zw, Zr, Zp, ev, sput, Zu, Zz, Yb, unK, Zd, Zx, Nat.reduceBEq, Nat.reduceAdd, Int.reduceBEq, Int.reduceBNe, Int.reduceLT, Zv, Ya, tup, tyf, Yv, List.nil_append, List.append_nil, List.toList_toArray, List.cons_append, Wz b6 shp_56]
  refine (valid_call (Ys hv hE) hl hx).mono ?_
  rintro _ H ⟨rfl, rfl⟩
  cases hgx : grs xs with
  | false =>
    simp (maxSteps := 2000000) only [s31, ↓Za, ↓Zk, ↓Zs, ↓Ze, ↓Zj, ↓Zt, ↓Zg, ↓Zm, ↓Zf, ↓Zc, ↓Zb, ↓vdn, vup, Zo, Zh, Zi, Zn, Zl, List.map_cons, List.map_nil, cond_true, cond_false, aop, Zw, Zr, Zp, ev, sput, Zu, Zz, Yb, unK, Zd, Zx, Nat.reduceBEq, Nat.reduceAdd, Int.reduceBEq, Int.reduceBNe, Int.reduceLT, Zv, Ya, tup, tyf, Bool.not_false]
    exact ⟨hE, by rw [joinR, if_neg (by rw [hgx]; exact fun h => by cases h.1)]⟩
  | true =>
  simp (maxSteps := 2000000) only [s31, ↓Za, ↓Zk, ↓Zs, ↓Ze, ↓Zj, ↓Zt, ↓Zg, ↓Zm, ↓Zf, ↓Zc, ↓Zb, ↓vdn, vup, Zo, Zh, Zi, Zn, Zl, List.map_cons, List.map_nil, cond_true, cond_false, aop, Zw, Zr, Zp, ev, sput, Zu, Zz, Yb, unK, Zd, Zx, Nat.reduceBEq, Nat.reduceAdd, Int.reduceBEq, Int.reduceBNe, Int.reduceLT, Zv, Ya, tup, tyf, Yv, List.nil_append, List.append_nil, List.toList_toArray, List.cons_append, Bool.not_true, Wz b7 shp_56]
  refine (valid_call (Ys hw hE) hl2 hx2).mono ?_
  rintro _ H ⟨rfl, rfl⟩
  cases hgy : grs ys with
  | false =>
    simp (maxSteps := 2000000) only [s31, ↓Za, ↓Zk, ↓Zs, ↓Ze, ↓Zj, ↓Zt, ↓Zg, ↓Zm, ↓Zf, ↓Zc, ↓Zb, ↓vdn, vup, Zo, Zh, Zi, Zn, Zl, List.map_cons, List.map_nil, cond_true, cond_false, aop, Zw, Zr, Zp, ev, sput, Zu, Zz, Yb, unK, Zd, Zx, Nat.reduceBEq, Nat.reduceAdd, Int.reduceBEq, Int.reduceBNe, Int.reduceLT, Zv, Ya, tup, tyf, Bool.not_false]
    exact ⟨hE, by rw [joinR, if_neg (by rw [hgy]; exact fun h => by cases h.2)]⟩
  | true =>
  have gx := Wf.1 hgx
  have gy := Wf.1 hgy
  have hvH := Ys hv hE
  have hwH := Ys hw hE
  have hb36 : xs.length * ys.length ≤ 6 * 6 := Nat.mul_le_mul gx.2.1 gy.2.1
  have hmul : mulV .i64 (xs.length : Int) (ys.length : Int) = ((xs.length * ys.length : Nat) : Int) := mulN (by omega)
  by_cases hsm : xs.length * ys.length ≤ 6
  · have hng : ¬ (6 : Int) < ((xs.length * ys.length : Nat) : Int) := by omega
    simp (maxSteps := 2000000) only [s31, ↓Za, ↓Zk, ↓Zs, ↓Ze, ↓Zj, ↓Zt, ↓Zg, ↓Zm, ↓Zf, ↓Zc, ↓Zb, ↓vdn, vup, Zo, Zh, Zi, Zn, Zl, List.map_cons, List.map_nil, cond_true, cond_false, aop, Zw, Zr, Zp, ev, sput, Zu, Zz, Yb, unK, Zd, Zx, Nat.reduceBEq, Nat.reduceAdd, Int.reduceBEq, Int.reduceBNe, Int.reduceLT, Zv, Ya, tup, tyf, Bool.not_true, hvH.len, hwH.len, hmul, gt_iff_lt, hng]
    refine hM [(0, v), (1, w), (4, .slice none 0 0), (5, .int .i64 0), (6, pt n6), (7, pt n7)] _ _ ?_ (by simp (maxSteps := 2000000) only [↓Za, ↓Zk, ↓Zs, ↓Ze, ↓Zj, ↓Zt, ↓Zg, ↓Zm, ↓Zf, ↓Zc, ↓Zb, ↓vdn, vup, Zo, Zh, Zi, Zn, Zl, List.map_cons, List.map_nil, cond_true, cond_false, aop, Zw, Zr, Zp, ev, sput, Zu, Zz, Yb, unK, Zd, Zx, Nat.reduceBEq, Nat.reduceAdd, Int.reduceBEq, Int.reduceBNe, Int.reduceLT, Zv, Ya, tup, tyf])
    clear hM
    try clear M
    refine Yc fun N3 hN3 => ?_
    simp (maxSteps := 2000000) only [s31, ↓Za, ↓Zk, ↓Zs, ↓Ze, ↓Zj, ↓Zt, ↓Zg, ↓Zm, ↓Zf, ↓Zc, ↓Zb, ↓vdn, vup, Zo, Zh, Zi, Zn, Zl, List.map_cons, List.map_nil, cond_true, cond_false, aop, Zw, Zr, Zp, ev, sput, Zu, Zz, Yb, unK, Zd, Zx, Nat.reduceBEq, Nat.reduceAdd, Int.reduceBEq, Int.reduceBNe, Int.reduceLT, Zv, Ya, tup, tyf, hwH.len, Wm, Xv, zero_3, Go.Am.storeI (Xa _ _) Xj, set_last]
    refine hN3 [(0, v), (1, w), (4, .slice none 0 0), (5, .int .i64 0), (6, pt n6), (7, pt n7), (8, pt H.length)] _ _ ?_ (by simp (maxSteps := 2000000) only [↓Za, ↓Zk, ↓Zs, ↓Ze, ↓Zj, ↓Zt, ↓Zg, ↓Zm, ↓Zf, ↓Zc, ↓Zb, ↓vdn, vup, Zo, Zh, Zi, Zn, Zl, List.map_cons, List.map_nil, cond_true, cond_false, aop, Zw, Zr, Zp, ev, sput, Zu, Zz, Yb, unK, Zd, Zx, Nat.reduceBEq, Nat.reduceAdd, Int.reduceBEq, Int.reduceBNe, Int.reduceLT, Zv, Ya, tup, tyf])
    clear hN3
    try clear N3
    have hE1 := hE.trans (Ext.app (fun _ => False) H [Blk.cells [Zy ys.length] 3 false])
    have c6 := Vd b6 [Blk.cells [Zy ys.length] 3 false]
    have c7 := Vd b7 [Blk.cells [Zy ys.length] 3 false]
    have c8 := Xa H (Blk.cells [Zy ys.length] 3 false)
    generalize H ++ [Blk.cells [Zy ys.length] 3 false] = H1 at hE1 c6 c7 c8 ⊢
    generalize H.length = n8 at c8 ⊢
    refine Yc fun N4 hN4 => ?_
    simp (maxSteps := 2000000) only [s31, ↓Za, ↓Zk, ↓Zs, ↓Ze, ↓Zj, ↓Zt, ↓Zg, ↓Zm, ↓Zf, ↓Zc, ↓Zb, ↓vdn, vup, Zo, Zh, Zi, Zn, Zl, List.map_cons, List.map_nil, cond_true, cond_false, aop, Zw, Zr, Zp, ev, sput, Zu, Zz, Yb, unK, Zd, Zx, Nat.reduceBEq, Nat.reduceAdd, Int.reduceBEq, Int.reduceBNe, Int.reduceLT, Zv, Ya, tup, tyf, Wm, Xv, zero_68, Go.Am.storeF (Xa _ _) shp_68, set_last]
    refine hN4 [(0, v), (1, w), (4, .slice none 0 0), (5, .int .i64 0), (6, pt n6), (7, pt n7), (8, pt n8), (9, pt H1.length)] _ _ ?_ (by simp (maxSteps := 2000000) only [↓Za, ↓Zk, ↓Zs, ↓Ze, ↓Zj, ↓Zt, ↓Zg, ↓Zm, ↓Zf, ↓Zc, ↓Zb, ↓vdn, vup, Zo, Zh, Zi, Zn, Zl, List.map_cons, List.map_nil, cond_true, cond_false, aop, Zw, Zr, Zp, ev, sput, Zu, Zz, Yb, unK, Zd, Zx, Nat.reduceBEq, Nat.reduceAdd, Int.reduceBEq, Int.reduceBNe, Int.reduceLT, Zv, Ya, tup, tyf])
    clear hN4
    try clear N4
    have hE2 := hE1.trans (Ext.app (fun _ => False) H1 [Blk.cells [.func (.func 58) #[] #[]] 68 false])
    have d6 := Vd c6 [Blk.cells [.func (.func 58) #[] #[]] 68 false]
    have d7 := Vd c7 [Blk.cells [.func (.func 58) #[] #[]] 68 false]
    have d8 := Vd c8 [Blk.cells [.func (.func 58) #[] #[]] 68 false]
    have d9 := Xa H1 (Blk.cells [.func (.func 58) #[] #[]] 68 false)
    generalize H1 ++ [Blk.cells [.func (.func 58) #[] #[]] 68 false] = H2 at hE2 d6 d7 d8 d9 ⊢
    generalize H1.length = n9 at d9 ⊢
    refine Ye ?_
    have hv2 := Ys hv hE2
    have hw2 := Ys hw hE2
    simp (maxSteps := 2000000) only [s31, ↓Za, ↓Zk, ↓Zs, ↓Ze, ↓Zj, ↓Zt, ↓Zg, ↓Zm, ↓Zf, ↓Zc, ↓Zb, ↓vdn, vup, Zo, Zh, Zi, Zn, Zl, List.map_cons, List.map_nil, cond_true, cond_false, aop, Zw, Zr, Zp, ev, sput, Zu, Zz, Yb, unK, Zd, Zx, Nat.reduceBEq, Nat.reduceAdd, Int.reduceBEq, Int.reduceBNe, Int.reduceLT, Zv, Ya, tup, tyf, Yv, List.nil_append, List.append_nil, List.toList_toArray, List.cons_append, hv2.len, Wz d8 Xj, hmul, List.map_toArray]
    refine (made_call (p := jp xs ys) hsm ?_).mono ?_
    · intro hp hEp i j hi hj K hk
      simp only [Yv, List.nil_append, List.cons_append]
      refine (join2_call (Ys hv2 hEp) (Ys hw2 hEp) gx gy ((hEp.2 _ (Yx d9) id).trans d9) ((hEp.2 _ (Yx d6) id).trans d6) ((hEp.2 _ (Yx d8) id).trans d8) ((hEp.2 _ (Yx d7) id).trans d7) hi hj).mono ?_
      rintro _ _ ⟨rfl, rfl⟩
      exact hk
    · rintro r h3 ⟨hr, hE3⟩
      refine ⟨hE2.trans hE3, ?_⟩
      rw [joinR, if_pos ⟨hgx, hgy⟩, if_pos hsm]
      exact ⟨_, rfl, hr⟩
  · have hg : (6 : Int) < ((xs.length * ys.length : Nat) : Int) := by omega
    simp (maxSteps := 2000000) only [s31, ↓Za, ↓Zk, ↓Zs, ↓Ze, ↓Zj, ↓Zt, ↓Zg, ↓Zm, ↓Zf, ↓Zc, ↓Zb, ↓vdn, vup, Zo, Zh, Zi, Zn, Zl, List.map_cons, List.map_nil, cond_true, cond_false, aop, Zw, Zr, Zp, ev, sput, Zu, Zz, Yb, unK, Zd, Zx, Nat.reduceBEq, Nat.reduceAdd, Int.reduceBEq, Int.reduceBNe, Int.reduceLT, Zv, Ya, tup, tyf, Bool.not_true, hvH.len, hwH.len, hmul, gt_iff_lt, hg]
    exact ⟨hE, by rw [joinR, if_pos ⟨hgx, hgy⟩, if_neg hsm]⟩

end Go.Proofs.Tryd.Am

namespace Go.Proofs.Tryd.Am
open Go.Am Sr
set_option maxRecDepth 100000
set_option maxHeartbeats 1000000

def sumTo (xs ys : List Int) (j : Nat) : List Int := xs ++ (List.range j).map fun t => ((gn ys t * 2 ^ xs.length : Nat) : Int)
def sumL (xs ys : List Int) : List Int := sumTo xs ys ys.length
theorem sumTo_zero (xs ys : List Int) : sumTo xs ys 0 = xs := by simp [sumTo]
theorem sumTo_succ (xs ys : List Int) (j : Nat) : sumTo xs ys (j + 1) = sumTo xs ys j ++ [((gn ys j * 2 ^ xs.length : Nat) : Int)] := by
  rw [sumTo, List.range_succ, List.map_append, ← List.append_assoc]; rfl
theorem sumTo_len (xs ys : List Int) (j : Nat) : (sumTo xs ys j).length = xs.length + j := by simp [sumTo]
def sumR (h' : Yd) (xs ys : List Int) (r : Value) : Prop :=
  if grs xs = true ∧ grs ys = true then (if xs.length + ys.length ≤ 6 then ∃ u, r = .tuple #[u, .int .i64 0] ∧ IntSl h' u (sumL xs ys) else r = .tuple #[.slice none 0 0, .int .i64 6]) else r = .tuple #[.slice none 0 0, .int .i64 2]
theorem shlG {a n : Nat} (ha : a < 64) (hn : n ≤ 6) : shlV .i64 (a : Int) (n : Int) = ((a * 2 ^ n : Nat) : Int) := by
  have h2 := pow6N hn
  exact shlV_nat (by have : a * 2 ^ n ≤ 64 * 64 := Nat.mul_le_mul (by omega) h2
                     omega) (by omega)
theorem gs_ne {xs : List Int} (g : Gs xs) : xs ≠ [] := fun e => by have := g.1; rw [e] at this; simp at this

theorem s32_callW [Tabs Tryd.prog] {args : List Value} {h : Yd} {Q : Value → Yd → Prop} (hsz : args.length ≤ 42) (hk : AWS Tryd.prog 42 s32 (Zv Tryd.prog [.tmp 4, .tmp 5] Q) (Zp 0 args) h) : ACall Tryd.prog 32 args h Q :=
  Xq Tryd.func32 rfl (enters_of Tryd.func32 (by kernel_rfl) rfl) rfl rfl (by decide) s32_strip s32_ok hsz hk
theorem sum_call [Tabs prog] {h : Yd} {v w : Value} {xs ys : List Int} (hv : IntSl h v xs) (hl : xs.length < 9223372036854775808) (hx : ∀ x ∈ xs, -9223372036854775808 ≤ x ∧ x < 9223372036854775808)
    (hw : IntSl h w ys) (hl2 : ys.length < 9223372036854775808) (hx2 : ∀ x ∈ ys, -9223372036854775808 ≤ x ∧ x < 9223372036854775808) : ACall prog 32 [v, w] h fun r h' => Ext (fun _ => False) h h' ∧ sumR h' xs ys r := by
  have hnn : ∀ i : Nat, (0 : Int) ≤ (i : Int) := Int.natCast_nonneg
  refine s32_callW (by simp) ?_
  simp only [s32]
  refine Yc fun N1 hN1 => ?_
  simp (maxSteps := 2000000) only [s32, ↓Za, ↓Zk, ↓Zs, ↓Ze, ↓Zj, ↓Zt, ↓Zg, ↓Zm, ↓Zf, ↓Zc, ↓Zb, ↓vdn, vup, Zo, Zh, Zi, Zn, Zl, List.map_cons, List.map_nil, cond_true, cond_false, aop, Zw, Zr, Zp, ev, sput, Zu, Zz, Yb, unK, Zd, Zx, Nat.reduceBEq, Nat.reduceAdd, Int.reduceBEq, Int.reduceBNe, Int.reduceLT, Zv, Ya, tup, tyf]
  refine hN1 [(0, v), (1, w), (4, .slice none 0 0), (5, .int .i64 0)] _ _ ?_ (by simp (maxSteps := 2000000) only [↓Za, ↓Zk, ↓Zs, ↓Ze, ↓Zj, ↓Zt, ↓Zg, ↓Zm, ↓Zf, ↓Zc, ↓Zb, ↓vdn, vup, Zo, Zh, Zi, Zn, Zl, List.map_cons, List.map_nil, cond_true, cond_false, aop, Zw, Zr, Zp, ev, sput, Zu, Zz, Yb, unK, Zd, Zx, Nat.reduceBEq, Nat.reduceAdd, Int.reduceBEq, Int.reduceBNe, Int.reduceLT, Zv, Ya, tup, tyf])
  clear hN1
  try clear N1
  refine Yc fun N2 hN2 => ?_
  simp (maxSteps := 2000000) only [s32, ↓Za, ↓Zk, ↓Zs, ↓Ze, ↓Zj, ↓Zt, ↓Zg, ↓Zm, ↓Zf, ↓Zc, ↓Zb, ↓vdn, vup, Zo, Zh, Zi, Zn, Zl, List.map_cons, List.map_nil, cond_true, cond_false, aop, Zw, Zr, Zp, ev, sput, Zu, Zz, Yb, unK, Zd, Zx, Nat.reduceBEq, Nat.reduceAdd, Int.reduceBEq, Int.reduceBNe, Int.reduceLT, Zv, Ya, tup, tyf, Yv, List.nil_append, List.append_nil, List.toList_toArray, List.cons_append]
  refine (valid_call hv hl hx).mono ?_
  rintro _ h ⟨rfl, rfl⟩
  cases hgx : grs xs with
  | false =>
    simp (maxSteps := 2000000) only [s32, ↓Za, ↓Zk, ↓Zs, ↓Ze, ↓Zj, ↓Zt, ↓Zg, ↓Zm, ↓Zf, ↓Zc, ↓Zb, ↓vdn, vup, Zo, Zh, Zi, Zn, Zl, List.map_cons, List.map_nil, cond_true, cond_false, aop, Zw, Zr, Zp, ev, sput, Zu, Zz, Yb, unK, Zd, Zx, Nat.reduceBEq, Nat.reduceAdd, Int.reduceBEq, Int.reduceBNe, Int.reduceLT, Zv, Ya, tup, tyf, Bool.not_false]
    exact ⟨Ext.refl _ _, by rw [sumR, if_neg (by rw [hgx]; exact fun h => by cases h.1)]⟩
  | true =>
  simp (maxSteps := 2000000) only [s32, ↓Za, ↓Zk, ↓Zs, ↓Ze, ↓Zj, ↓Zt, ↓Zg, ↓Zm, ↓Zf, ↓Zc, ↓Zb, ↓vdn, vup, Zo, Zh, Zi, Zn, Zl, List.map_cons, List.map_nil, cond_true, cond_false, aop, Zw, Zr, Zp, ev, sput, Zu, Zz, Yb, unK, Zd, Zx, Nat.reduceBEq, Nat.reduceAdd, Int.reduceBEq, Int.reduceBNe, Int.reduceLT, Zv, Ya, tup, tyf, Yv, List.nil_append, List.append_nil, List.toList_toArray, List.cons_append, Bool.not_true]
  refine (valid_call hw hl2 hx2).mono ?_
  rintro _ h ⟨rfl, rfl⟩
  cases hgy : grs ys with
  | false =>
    simp (maxSteps := 2000000) only [s32, ↓Za, ↓Zk, ↓Zs, ↓Ze, ↓Zj, ↓Zt, ↓Zg, ↓Zm, ↓Zf, ↓Zc, ↓Zb, ↓vdn, vup, Zo, Zh, Zi, Zn, Zl, List.map_cons, List.map_nil, cond_true, cond_false, aop, Zw, Zr, Zp, ev, sput, Zu, Zz, Yb, unK, Zd, Zx, Nat.reduceBEq, Nat.reduceAdd, Int.reduceBEq, Int.reduceBNe, Int.reduceLT, Zv, Ya, tup, tyf, Bool.not_false]
    exact ⟨Ext.refl _ _, by rw [sumR, if_neg (by rw [hgy]; exact fun h => by cases h.2)]⟩
  | true =>
  have gx := Wf.1 hgx
  have gy := Wf.1 hgy
  have hx6 := gx.2.1
  have hy6 := gy.2.1
  have hadd : addV .i64 (xs.length : Int) (ys.length : Int) = ((xs.length + ys.length : Nat) : Int) := by rw [Vm (by omega) (by omega)]; omega
  by_cases hsm : xs.length + ys.length ≤ 6
  · have hng : ¬ (6 : Int) < ((xs.length + ys.length : Nat) : Int) := by omega
    simp (maxSteps := 2000000) only [s32, ↓Za, ↓Zk, ↓Zs, ↓Ze, ↓Zj, ↓Zt, ↓Zg, ↓Zm, ↓Zf, ↓Zc, ↓Zb, ↓vdn, vup, Zo, Zh, Zi, Zn, Zl, List.map_cons, List.map_nil, cond_true, cond_false, aop, Zw, Zr, Zp, ev, sput, Zu, Zz, Yb, unK, Zd, Zx, Nat.reduceBEq, Nat.reduceAdd, Int.reduceBEq, Int.reduceBNe, Int.reduceLT, Zv, Ya, tup, tyf, Bool.not_true, hv.len, hw.len, hadd, gt_iff_lt, hng]
    refine hN2 [(0, v), (1, w), (4, .slice none 0 0), (5, .int .i64 0)] _ _ ?_ (by simp (maxSteps := 2000000) only [↓Za, ↓Zk, ↓Zs, ↓Ze, ↓Zj, ↓Zt, ↓Zg, ↓Zm, ↓Zf, ↓Zc, ↓Zb, ↓vdn, vup, Zo, Zh, Zi, Zn, Zl, List.map_cons, List.map_nil, cond_true, cond_false, aop, Zw, Zr, Zp, ev, sput, Zu, Zz, Yb, unK, Zd, Zx, Nat.reduceBEq, Nat.reduceAdd, Int.reduceBEq, Int.reduceBNe, Int.reduceLT, Zv, Ya, tup, tyf])
    clear hN2
    try clear N2
    refine Yc fun N3 hN3 => ?_
    simp (maxSteps := 2000000) only [s32, ↓Za, ↓Zk, ↓Zs, ↓Ze, ↓Zj, ↓Zt, ↓Zg, ↓Zm, ↓Zf, ↓Zc, ↓Zb, ↓vdn, vup, Zo, Zh, Zi, Zn, Zl, List.map_cons, List.map_nil, cond_true, cond_false, aop, Zw, Zr, Zp, ev, sput, Zu, Zz, Yb, unK, Zd, Zx, Nat.reduceBEq, Nat.reduceAdd, Int.reduceBEq, Int.reduceBNe, Int.reduceLT, Zv, Ya, tup, tyf, Yv, List.nil_append, List.append_nil, List.toList_toArray, List.cons_append]
    refine (clone_rsi hv (gs_ne gx) (by omega)).mono ?_
    rintro r h1 hs1
    refine hN3 [(0, v), (1, w), (4, .slice none 0 0), (5, .int .i64 0), (6, r)] _ _ ?_ (by simp (maxSteps := 2000000) only [↓Za, ↓Zk, ↓Zs, ↓Ze, ↓Zj, ↓Zt, ↓Zg, ↓Zm, ↓Zf, ↓Zc, ↓Zb, ↓vdn, vup, Zo, Zh, Zi, Zn, Zl, List.map_cons, List.map_nil, cond_true, cond_false, aop, Zw, Zr, Zp, ev, sput, Zu, Zz, Yb, unK, Zd, Zx, Nat.reduceBEq, Nat.reduceAdd, Int.reduceBEq, Int.reduceBNe, Int.reduceLT, Zv, Ya, tup, tyf])
    clear hN3
    try clear N3
    refine Yc fun Z hZ => ?_
    simp (maxSteps := 2000000) only [s32, ↓Za, ↓Zk, ↓Zs, ↓Ze, ↓Zj, ↓Zt, ↓Zg, ↓Zm, ↓Zf, ↓Zc, ↓Zb, ↓vdn, vup, Zo, Zh, Zi, Zn, Zl, List.map_cons, List.map_nil, cond_true, cond_false, aop, Zw, Zr, Zp, ev, sput, Zu, Zz, Yb, unK, Zd, Zx, Nat.reduceBEq, Nat.reduceAdd, Int.reduceBEq, Int.reduceBNe, Int.reduceLT, Zv, Ya, tup, tyf, hw.len, ↓Xc]
    refine Yg fun Q hQ => ?_
    refine Wp (γ := Nat × Value × Yd) (fun s => s.1 ≤ ys.length ∧ RSI h s.2.2 s.2.1 (sumTo xs ys s.1))
      (fun s => ([(0, v), (1, w), (4, .slice none 0 0), (5, .int .i64 0), (6, s.2.1), (27, w), (28, Zy ys.length), (29, Zy s.1)], s.2.2)) (fun s => ys.length - s.1) (0, r, h1) ⟨Nat.zero_le _, by rw [sumTo_zero]; exact hs1⟩ (by simp (maxSteps := 2000000) only [↓Za, ↓Zk, ↓Zs, ↓Ze, ↓Zj, ↓Zt, ↓Zg, ↓Zm, ↓Zf, ↓Zc, ↓Zb, ↓vdn, vup, Zo, Zh, Zi, Zn, Zl, List.map_cons, List.map_nil, cond_true, cond_false, aop, Zw, Zr, Zp, ev, sput, Zu, Zz, Yb, unK, Zd, Zx, Nat.reduceBEq, Nat.reduceAdd, Int.reduceBEq, Int.reduceBNe, Int.reduceLT, Zv, Ya, tup, tyf, Int.natCast_zero]) rfl ?_
    rintro ⟨j, ov, hp⟩ ⟨hj, hs⟩
    simp only at hj hs
    refine Wo fun Q2 hQ2 => ?_
    have hv1 := Ys hv hs.2.1
    have hw1 := Ys hw hs.2.1
    by_cases hjn : (j : Int) < ys.length
    · have hj' : j < ys.length := by omega
      obtain ⟨hge, hgl⟩ := gnE gy hj'
      simp (maxSteps := 2000000) only [s32, ↓Za, ↓Zk, ↓Zs, ↓Ze, ↓Zj, ↓Zt, ↓Zg, ↓Zm, ↓Zf, ↓Zc, ↓Zb, ↓vdn, vup, Zo, Zh, Zi, Zn, Zl, List.map_cons, List.map_nil, cond_true, cond_false, aop, Zw, Zr, Zp, ev, sput, Zu, Zz, Yb, unK, Zd, Zx, Nat.reduceBEq, Nat.reduceAdd, Int.reduceBEq, Int.reduceBNe, Int.reduceLT, Zv, Ya, tup, tyf, l32_0, hjn, hw1.idx We Xk hj', hw1.load Xj hj', hge, hv1.len, hnn, shlG hgl hx6, litI1]
      refine hs.push (by rw [sumTo_len]; omega) fun v' h' s' => ?_
      simp (maxSteps := 2000000) only [s32, ↓Za, ↓Zk, ↓Zs, ↓Ze, ↓Zj, ↓Zt, ↓Zg, ↓Zm, ↓Zf, ↓Zc, ↓Zb, ↓vdn, vup, Zo, Zh, Zi, Zn, Zl, List.map_cons, List.map_nil, cond_true, cond_false, aop, Zw, Zr, Zp, ev, sput, Zu, Zz, Yb, unK, Zd, Zx, Nat.reduceBEq, Nat.reduceAdd, Int.reduceBEq, Int.reduceBNe, Int.reduceLT, Zv, Ya, tup, tyf, add1 (show j < 9223372036854775807 by omega)]
      refine hQ2 _ _ _ ⟨(j + 1, v', h'), ⟨by simp only; omega, by rw [sumTo_succ]; exact s'⟩, by simp only; omega, by simp (maxSteps := 2000000) only [↓Za, ↓Zk, ↓Zs, ↓Ze, ↓Zj, ↓Zt, ↓Zg, ↓Zm, ↓Zf, ↓Zc, ↓Zb, ↓vdn, vup, Zo, Zh, Zi, Zn, Zl, List.map_cons, List.map_nil, cond_true, cond_false, aop, Zw, Zr, Zp, ev, sput, Zu, Zz, Yb, unK, Zd, Zx, Nat.reduceBEq, Nat.reduceAdd, Int.reduceBEq, Int.reduceBNe, Int.reduceLT, Zv, Ya, tup, tyf], rfl⟩
    · obtain rfl : j = ys.length := by omega
      simp (maxSteps := 2000000) only [s32, ↓Za, ↓Zk, ↓Zs, ↓Ze, ↓Zj, ↓Zt, ↓Zg, ↓Zm, ↓Zf, ↓Zc, ↓Zb, ↓vdn, vup, Zo, Zh, Zi, Zn, Zl, List.map_cons, List.map_nil, cond_true, cond_false, aop, Zw, Zr, Zp, ev, sput, Zu, Zz, Yb, unK, Zd, Zx, Nat.reduceBEq, Nat.reduceAdd, Int.reduceBEq, Int.reduceBNe, Int.reduceLT, Zv, Ya, tup, tyf, l32_0, Int.lt_irrefl]
      refine hQ2 _ _ _ (hQ _ _ _ ?_)
      simp (maxSteps := 2000000) only [s32, ↓Za, ↓Zk, ↓Zs, ↓Ze, ↓Zj, ↓Zt, ↓Zg, ↓Zm, ↓Zf, ↓Zc, ↓Zb, ↓vdn, vup, Zo, Zh, Zi, Zn, Zl, List.map_cons, List.map_nil, cond_true, cond_false, aop, Zw, Zr, Zp, ev, sput, Zu, Zz, Yb, unK, Zd, Zx, Nat.reduceBEq, Nat.reduceAdd, Int.reduceBEq, Int.reduceBNe, Int.reduceLT, Zv, Ya, tup, tyf, if_true]
      refine hZ [(0, v), (1, w), (4, .slice none 0 0), (5, .int .i64 0), (6, ov)] _ _ ?_ (by simp (maxSteps := 2000000) only [↓Za, ↓Zk, ↓Zs, ↓Ze, ↓Zj, ↓Zt, ↓Zg, ↓Zm, ↓Zf, ↓Zc, ↓Zb, ↓vdn, vup, Zo, Zh, Zi, Zn, Zl, List.map_cons, List.map_nil, cond_true, cond_false, aop, Zw, Zr, Zp, ev, sput, Zu, Zz, Yb, unK, Zd, Zx, Nat.reduceBEq, Nat.reduceAdd, Int.reduceBEq, Int.reduceBNe, Int.reduceLT, Zv, Ya, tup, tyf])
      clear hZ
      try clear Z
      refine Ye ?_
      simp (maxSteps := 2000000) only [s32, ↓Za, ↓Zk, ↓Zs, ↓Ze, ↓Zj, ↓Zt, ↓Zg, ↓Zm, ↓Zf, ↓Zc, ↓Zb, ↓vdn, vup, Zo, Zh, Zi, Zn, Zl, List.map_cons, List.map_nil, cond_true, cond_false, aop, Zw, Zr, Zp, ev, sput, Zu, Zz, Yb, unK, Zd, Zx, Nat.reduceBEq, Nat.reduceAdd, Int.reduceBEq, Int.reduceBNe, Int.reduceLT, Zv, Ya, tup, tyf]
      refine ⟨hs.2.1, ?_⟩
      rw [sumR, if_pos ⟨hgx, hgy⟩, if_pos hsm]
      exact ⟨_, rfl, hs.1.int⟩
  · have hg : (6 : Int) < ((xs.length + ys.length : Nat) : Int) := by omega
    simp (maxSteps := 2000000) only [s32, ↓Za, ↓Zk, ↓Zs, ↓Ze, ↓Zj, ↓Zt, ↓Zg, ↓Zm, ↓Zf, ↓Zc, ↓Zb, ↓vdn, vup, Zo, Zh, Zi, Zn, Zl, List.map_cons, List.map_nil, cond_true, cond_false, aop, Zw, Zr, Zp, ev, sput, Zu, Zz, Yb, unK, Zd, Zx, Nat.reduceBEq, Nat.reduceAdd, Int.reduceBEq, Int.reduceBNe, Int.reduceLT, Zv, Ya, tup, tyf, Bool.not_true, hv.len, hw.len, hadd, gt_iff_lt, hg]
    exact ⟨Ext.refl _ _, by rw [sumR, if_pos ⟨hgx, hgy⟩, if_neg hsm]⟩

end Go.Proofs.Tryd.Am

namespace Go.Proofs.Tryd.Am
open Go.Am Sr
set_option maxRecDepth 100000
set_option maxHeartbeats 1000000

theorem joinR_take {h : Yd} {xs ys : List Int} {r : Value} (hr : joinR h (xs.take 80) (ys.take 80) r) : joinR h xs ys r := by
  unfold joinR at hr ⊢
  rw [grs_take, grs_take] at hr
  by_cases hg : grs xs = true ∧ grs ys = true
  · rw [if_pos hg, grs_same hg.1, grs_same hg.2] at hr; rw [if_pos hg]; exact hr
  · rw [if_neg hg] at hr ⊢; exact hr
theorem sumR_take {h : Yd} {xs ys : List Int} {r : Value} (hr : sumR h (xs.take 80) (ys.take 80) r) : sumR h xs ys r := by
  unfold sumR at hr ⊢
  rw [grs_take, grs_take] at hr
  by_cases hg : grs xs = true ∧ grs ys = true
  · rw [if_pos hg, grs_same hg.1, grs_same hg.2] at hr; rw [if_pos hg]; exact hr
  · rw [if_neg hg] at hr ⊢; exact hr
theorem joinR_form {h' : Yd} {xs ys : List Int} {r : Value} (hr : joinR h' xs ys r) : ∃ u e, r = .tuple #[u, .int .i64 e] ∧
    ((¬ (grs xs = true ∧ grs ys = true) ∧ u = .slice none 0 0 ∧ e = 2) ∨ ((grs xs = true ∧ grs ys = true) ∧ ¬ xs.length * ys.length ≤ 6 ∧ u = .slice none 0 0 ∧ e = 6) ∨ ((grs xs = true ∧ grs ys = true) ∧ xs.length * ys.length ≤ 6 ∧ IntSl h' u (joinL xs ys) ∧ e = 0)) := by
  unfold joinR at hr
  by_cases hg : grs xs = true ∧ grs ys = true
  · rw [if_pos hg] at hr
    by_cases hs : xs.length * ys.length ≤ 6
    · rw [if_pos hs] at hr
      obtain ⟨u, rfl, hu⟩ := hr
      exact ⟨_, _, rfl, .inr (.inr ⟨hg, hs, hu, rfl⟩)⟩
    · rw [if_neg hs] at hr; exact ⟨_, _, hr, .inr (.inl ⟨hg, hs, rfl, rfl⟩)⟩
  · rw [if_neg hg] at hr; exact ⟨_, _, hr, .inl ⟨hg, rfl, rfl⟩⟩
theorem sumR_form {h' : Yd} {xs ys : List Int} {r : Value} (hr : sumR h' xs ys r) : ∃ u e, r = .tuple #[u, .int .i64 e] ∧
    ((¬ (grs xs = true ∧ grs ys = true) ∧ u = .slice none 0 0 ∧ e = 2) ∨ ((grs xs = true ∧ grs ys = true) ∧ ¬ xs.length + ys.length ≤ 6 ∧ u = .slice none 0 0 ∧ e = 6) ∨ ((grs xs = true ∧ grs ys = true) ∧ xs.length + ys.length ≤ 6 ∧ IntSl h' u (sumL xs ys) ∧ e = 0)) := by
  unfold sumR at hr
  by_cases hg : grs xs = true ∧ grs ys = true
  · rw [if_pos hg] at hr
    by_cases hs : xs.length + ys.length ≤ 6
    · rw [if_pos hs] at hr
      obtain ⟨u, rfl, hu⟩ := hr
      exact ⟨_, _, rfl, .inr (.inr ⟨hg, hs, hu, rfl⟩)⟩
    · rw [if_neg hs] at hr; exact ⟨_, _, hr, .inr (.inl ⟨hg, hs, rfl, rfl⟩)⟩
  · rw [if_neg hg] at hr; exact ⟨_, _, hr, .inl ⟨hg, rfl, rfl⟩⟩

theorem joinL_len (xs ys : List Int) : (joinL xs ys).length = xs.length * ys.length := by rw [joinL, iL_len, mat_len]
theorem sumL_len (xs ys : List Int) : (sumL xs ys).length = xs.length + ys.length := by rw [sumL, sumTo_len]
end Go.Proofs.Tryd.Am

namespace Go.Proofs.Tryd.Am
open Go.Am
set_option maxRecDepth 100000
end Go.Proofs.Tryd.Am

namespace Go.Proofs.Tryd.Am
open Go.Am Sr
set_option maxRecDepth 100000
set_option maxHeartbeats 1000000

theorem gb_mat {p : Nat → Nat → Bool} {m i j : Nat} (hi : i < m) : gb (iL (mat p m)) i j = (decide (j < m) && (i != j && p i j)) := by
  have e : (iL (mat p m)).getD i 0 = ((rwM p i m : Nat) : Int) := by
    rw [iL_get, mat, List.getD, List.getElem?_map, List.getElem?_range hi]; rfl
  rw [gb, e, Int.toNat_natCast, rwM, mk_bit]
theorem mat_gs {p : Nat → Nat → Bool} {m : Nat} (h1 : 1 ≤ m) (h6 : m ≤ 6) (hp : ∀ i j, i < m → j < m → p i j = p j i) : Gs (iL (mat p m)) := by
  have hl : (iL (mat p m)).length = m := by rw [iL_len, mat_len]
  refine ⟨by rw [hl]; exact h1, by rw [hl]; exact h6, fun i hi => ?_⟩
  rw [hl] at hi ⊢
  have e : (iL (mat p m)).getD i 0 = ((rwM p i m : Nat) : Int) := by
    rw [iL_get, mat, List.getD, List.getElem?_map, List.getElem?_range hi]; rfl
  refine ⟨?_, ?_, fun j hj => ?_⟩
  · have := rwM_lt p i m
    have h2 : ((2 ^ m : Nat) : Int) = (2 : Int) ^ m := by simp
    rw [e, ← h2]
    generalize 2 ^ m = z at this
    omega
  · rw [gb_mat hi]; simp
  · rw [gb_mat hi, gb_mat hj, hp i j hi hj]
    have : (i != j) = (j != i) := bne_comm
    rw [this]; simp [hi, hj]
theorem nq_self (xs : List Int) (i : Nat) : nq xs i i = true := by simp [nq]
theorem nq_comm {xs : List Int} (g : Gs xs) {i j : Nat} (hi : i < xs.length) (hj : j < xs.length) : nq xs i j = nq xs j i := by
  rw [nq, nq, (g.2.2 i hi).2.2 j hj]
  have : (i == j) = (j == i) := Bool.beq_comm
  rw [this]
section
variable {xs ys : List Int}
theorem jp_comm (gx : Gs xs) (gy : Gs ys) {i j : Nat} (hi : i < xs.length * ys.length) (hj : j < xs.length * ys.length) : jp xs ys i j = jp xs ys j i := by
  have d : ∀ {t}, t < xs.length * ys.length → t / ys.length < xs.length := fun h => Nat.div_lt_of_lt_mul (by rw [Nat.mul_comm]; exact h)
  rw [jp, jp, nq_comm gx (d hi) (d hj), nq_comm gy (Nat.mod_lt _ gy.1) (Nat.mod_lt _ gy.1)]
theorem joinL_gs (gx : Gs xs) (gy : Gs ys) (h6 : xs.length * ys.length ≤ 6) : Gs (joinL xs ys) :=
  mat_gs (Nat.mul_pos gx.1 gy.1) h6 fun _ _ hi hj => jp_comm gx gy hi hj
end
section
variable {xs : List Int}
end

end Go.Proofs.Tryd.Am

namespace Go.Proofs.Tryd.Am
open Go.Am Sr

theorem qsum_app (z : Nat → Rat) (a : Nat) : ∀ b, Bq.sumTo z (a + b) = Bq.sumTo z a + Bq.sumTo (fun i => z (a + i)) b
  | 0 => by rw [Nat.add_zero, Bq.sumTo, Rat.add_zero]
  | b + 1 => by rw [← Nat.add_assoc, Bq.sumTo, Bq.sumTo, qsum_app z a b, Rat.add_assoc]
theorem qsum_prod (z : Nat → Rat) (m : Nat) : ∀ n, Bq.sumTo z (n * m) = Bq.sumTo (fun a => Bq.sumTo (fun b => z (a * m + b)) m) n
  | 0 => by rw [Nat.zero_mul]; rfl
  | n + 1 => by rw [Nat.succ_mul, qsum_app, qsum_prod z m n, Bq.sumTo]
theorem qsum_nn {z : Nat → Rat} : ∀ {n : Nat}, (∀ i, i < n → 0 ≤ z i) → 0 ≤ Bq.sumTo z n
  | 0, _ => Rat.le_refl
  | n + 1, h => by
    rw [Bq.sumTo]
    have h1 := qsum_nn (z := z) (n := n) fun i hi => h i (by omega)
    have h2 := h n (by omega)
    grind
theorem pair_lt {n m a b : Nat} (ha : a < n) (hb : b < m) : a * m + b < n * m :=
  Nat.lt_of_lt_of_le (by rw [Nat.succ_mul]; omega) (Nat.mul_le_mul_right m (Nat.succ_le_of_lt ha))
theorem pair_div {m a b : Nat} (hb : b < m) : (a * m + b) / m = a := by
  rw [Nat.mul_comm, Nat.mul_add_div (by omega), Nat.div_eq_of_lt hb, Nat.add_zero]
theorem pair_mod {m a b : Nat} (hb : b < m) : (a * m + b) % m = b := by
  rw [Nat.mul_comm, Nat.mul_add_mod, Nat.mod_eq_of_lt hb]
theorem clq_bit {xs : List Int} (g : Gs xs) {s : Nat} (hs : s ∈ clq xs) : ∃ i, i < xs.length ∧ s.testBit i = true := by
  obtain ⟨h1, h2, _⟩ := (Vg g).1 hs
  refine Classical.byContradiction fun h => ?_
  have : s = 0 := Nat.eq_of_testBit_eq fun i => by
    rw [Nat.zero_testBit]
    by_cases hi : i < xs.length
    · cases hb : s.testBit i with
      | false => rfl
      | true => exact absurd ⟨i, hi, hb⟩ h
    · exact Nat.testBit_lt_two_pow (Nat.lt_of_lt_of_le h1 (Nat.pow_le_pow_right (by decide) (by omega)))
  omega
theorem bit_in {s n i : Nat} (h : s < 2 ^ n) (hb : s.testBit i = true) : i < n := Nat.lt_of_not_le fun hge => by
  rw [Nat.testBit_lt_two_pow (Nat.lt_of_lt_of_le h (Nat.pow_le_pow_right (by decide) hge))] at hb
  cases hb
theorem mk_clq {xs : List Int} (g : Gs xs) {p : Nat → Bool} (h0 : ∃ i, i < xs.length ∧ p i = true) (hp : ∀ i j, i < xs.length → j < xs.length → i ≠ j → p i = true → p j = true → gb xs i j = true) : mk p xs.length ∈ clq xs := by
  refine (Vg g).2 ⟨mk_lt _ _, Nat.pos_of_ne_zero fun h => ?_, fun i hi hb j hj hb2 => ?_⟩
  · obtain ⟨i, hi, hb⟩ := h0
    have := mk_bit p xs.length i
    rw [h, Nat.zero_testBit, decide_eq_true hi, hb] at this; cases this
  · rw [mk_bit, Bool.and_eq_true, decide_eq_true_eq] at hb hb2
    exact hp i j hi hb2.1 (Ne.symm hj) hb.2 hb2.2
section
variable {xs ys : List Int}
theorem join_gb (gx : Gs xs) (gy : Gs ys) {a a' b b' : Nat} (ha : a < xs.length) (ha' : a' < xs.length) (hb : b < ys.length) (hb' : b' < ys.length) : gb (joinL xs ys) (a * ys.length + b) (a' * ys.length + b') = (decide (a * ys.length + b ≠ a' * ys.length + b') && (nq xs a a' && nq ys b b')) := by
  rw [joinL, gb_mat (pair_lt ha hb), decide_eq_true (pair_lt ha' hb'), Bool.true_and, jp, pair_div hb, pair_div hb', pair_mod hb, pair_mod hb']
  congr 1
  rw [Bool.eq_iff_iff, bne_iff_ne, decide_eq_true_eq]
theorem join_weigh (gx : Gs xs) (gy : Gs ys) (h6 : xs.length * ys.length ≤ 6) {p q r : Rat} (hp : WQ xs p) (hq : WQ ys q) (hr : WQ (joinL xs ys) r) : r = p * q := by
  have gj := joinL_gs gx gy h6
  have hm0 : 0 < ys.length := gy.1
  obtain ⟨n, hn⟩ : ∃ n, n = xs.length := ⟨_, rfl⟩
  obtain ⟨m, hm⟩ : ∃ m, m = ys.length := ⟨_, rfl⟩
  have hJl : (joinL xs ys).length = n * m := by rw [joinL_len, hn, hm]
  have hgb : ∀ {a a' b b' : Nat}, a < n → a' < n → b < m → b' < m → gb (joinL xs ys) (a * m + b) (a' * m + b') = (decide (a * m + b ≠ a' * m + b') && (nq xs a a' && nq ys b b')) := fun {a a' b b'} ha ha' hb hb' => by
    rw [hm]; exact join_gb gx gy (hn ▸ ha) (hn ▸ ha') (hm ▸ hb) (hm ▸ hb')
  have dec : ∀ i, i < n * m → ∃ a b, a < n ∧ b < m ∧ i = a * m + b := fun i hi => by
    refine ⟨i / m, i % m, Nat.div_lt_of_lt_mul (by rw [Nat.mul_comm]; exact hi), Nat.mod_lt _ (by omega), ?_⟩
    have := Nat.div_add_mod i m
    rw [Nat.mul_comm]; omega
  have p1 := hp.ge gx
  have q1 := hq.ge gy
  refine Rat.le_antisymm ?_ ?_
  · obtain ⟨z, hz, rfl⟩ := hr.1.at_
    rw [hJl] at hz ⊢
    obtain ⟨Z, hZ⟩ : ∃ Z : Nat → Rat, Z = fun a => Bq.sumTo (fun b => z (a * m + b)) m := ⟨_, rfl⟩
    have hZ0 : ∀ a, a < n → 0 ≤ Z a := fun a ha => by rw [hZ]; exact qsum_nn fun b hb => hz.nn _ (pair_lt ha hb)
    have key : ∀ A ∈ clq xs, Bq.dot (Bq.bitQ A) Z n ≤ q := fun A hA => by
      obtain ⟨hA1, hA2, hA3⟩ := (Vg gx).1 hA
      have hf : Bq.PFeas m (clq ys) fun b => Bq.sumTo (fun a => Bq.bitQ A a * z (a * m + b)) n := by
        refine ⟨fun b hb => qsum_nn fun a ha => Rat.mul_nonneg (Bq.bitQ_nn _ _) (hz.nn _ (pair_lt ha hb)), fun B hB => ?_⟩
        obtain ⟨hB1, hB2, hB3⟩ := (Vg gy).1 hB
        obtain ⟨s, hs⟩ : ∃ s, s = mk (fun i => A.testBit (i / m) && B.testBit (i % m)) (n * m) := ⟨_, rfl⟩
        have hsc : s ∈ clq (joinL xs ys) := by
          rw [hs, ← hJl]
          refine mk_clq gj ?_ fun i j hi hj hij h1 h2 => ?_
          · obtain ⟨a, ha, hab⟩ := clq_bit gx hA
            obtain ⟨b, hb, hbb⟩ := clq_bit gy hB
            refine ⟨a * m + b, by rw [hJl]; exact pair_lt (hn ▸ ha) (hm ▸ hb), ?_⟩
            rw [pair_div (hm ▸ hb), pair_mod (hm ▸ hb), hab, hbb]; rfl
          · rw [hJl] at hi hj
            obtain ⟨a, b, ha, hb, rfl⟩ := dec i hi
            obtain ⟨a', b', ha', hb', rfl⟩ := dec j hj
            rw [pair_div hb, pair_mod hb, Bool.and_eq_true] at h1
            rw [pair_div hb', pair_mod hb', Bool.and_eq_true] at h2
            rw [hgb ha ha' hb hb', decide_eq_true hij, Bool.true_and, Bool.and_eq_true, nq, nq, Bool.or_eq_true, Bool.or_eq_true, beq_iff_eq, beq_iff_eq]
            refine ⟨?_, ?_⟩
            · by_cases e : a = a'
              · exact .inl e
              · exact .inr (hA3 a (hn ▸ ha) h1.1 a' (Ne.symm e) h2.1)
            · by_cases e : b = b'
              · exact .inl e
              · exact .inr (hB3 b (hm ▸ hb) h1.2 b' (Ne.symm e) h2.2)
        have h1 := hz.le s hsc
        have e : Bq.dot (Bq.bitQ s) z (n * m) = Bq.dot (Bq.bitQ B) (fun b => Bq.sumTo (fun a => Bq.bitQ A a * z (a * m + b)) n) m := by
          rw [Bq.dot, qsum_prod, Bq.sumTo_swap, Bq.dot]
          refine Bq.sumTo_congr fun b hb => ?_
          rw [← Bq.sumTo_mul]
          refine Bq.sumTo_congr fun a ha => ?_
          have : Bq.bitQ s (a * m + b) = Bq.bitQ A a * Bq.bitQ B b := by
            rw [Bq.bitQ, hs, mk_bit, decide_eq_true (pair_lt ha hb), pair_div hb, pair_mod hb, Bool.true_and, Bq.bitQ, Bq.bitQ]
            cases A.testBit a <;> cases B.testBit b <;> simp
          rw [this]; grind
        rw [← e]; exact h1
      have h2 := hq.1.le _ (hm ▸ hf)
      rw [← hm, ← Bq.sumTo_swap] at h2
      have e : Bq.dot (Bq.bitQ A) Z n = Bq.sumTo (fun i => Bq.sumTo (fun j => Bq.bitQ A i * z (i * m + j)) m) n := by
        rw [Bq.dot, hZ]
        exact Bq.sumTo_congr fun a _ => by rw [← Bq.sumTo_mul]
      rw [e]; exact h2
    have hq0 : q ≠ 0 := fun h => by rw [h] at q1; exact absurd q1 (by decide)
    have hqp : 0 < q := by grind
    have h3 := hp.1.le (fun a => q⁻¹ * Z a) ⟨fun a ha => Rat.mul_nonneg (Rat.le_of_lt (Rat.inv_pos.2 hqp)) (hZ0 a (hn ▸ ha)), fun A hA => by
      have h4 := key A hA
      have e : Bq.dot (Bq.bitQ A) (fun a => q⁻¹ * Z a) xs.length = q⁻¹ * Bq.dot (Bq.bitQ A) Z n := by
        rw [Bq.dot, Bq.dot, ← Bq.sumTo_mul, hn]
        exact Bq.sumTo_congr fun a _ => by grind
      rw [e]
      have h5 := Rat.mul_le_mul_of_nonneg_left h4 (Rat.le_of_lt (Rat.inv_pos.2 hqp))
      rwa [Rat.inv_mul_cancel _ hq0] at h5⟩
    rw [Bq.sumTo_mul, ← hn] at h3
    have h6' := Rat.mul_le_mul_of_nonneg_left h3 (Rat.le_of_lt hqp)
    rw [← Rat.mul_assoc, Rat.mul_inv_cancel _ hq0, Rat.one_mul] at h6'
    rw [qsum_prod, ← hZ, Rat.mul_comm p q]
    exact h6'
  · obtain ⟨x, hx, hxp⟩ := hp.1.at_
    obtain ⟨y, hy, hyq⟩ := hq.1.at_
    rw [← hn] at hx hxp
    rw [← hm] at hy hyq
    have hz : ∀ a b, b < m → (fun i => x (i / m) * y (i % m)) (a * m + b) = x a * y b := fun a b hb => by simp only [pair_div hb, pair_mod hb]
    have h1 := hr.1.le (fun i => x (i / m) * y (i % m)) ⟨fun i hi => ?_, fun s hs => ?_⟩
    · rw [hJl, qsum_prod] at h1
      have e : Bq.sumTo (fun a => Bq.sumTo (fun b => (fun i => x (i / m) * y (i % m)) (a * m + b)) m) n = p * q := by
        have e2 : Bq.sumTo (fun a => Bq.sumTo (fun b => (fun i => x (i / m) * y (i % m)) (a * m + b)) m) n = Bq.sumTo (fun a => q * x a) n := Bq.sumTo_congr fun a _ => by
          have e3 : Bq.sumTo (fun b => (fun i => x (i / m) * y (i % m)) (a * m + b)) m = Bq.sumTo (fun b => x a * y b) m := Bq.sumTo_congr fun b hb => hz a b hb
          rw [e3, Bq.sumTo_mul, hyq, Rat.mul_comm]
        rw [e2, Bq.sumTo_mul, hxp, Rat.mul_comm]
      rw [e] at h1; exact h1
    · rw [hJl] at hi
      obtain ⟨a, b, ha, hb, rfl⟩ := dec i hi
      show 0 ≤ (fun i => x (i / m) * y (i % m)) (a * m + b)
      rw [hz a b hb]
      exact Rat.mul_nonneg (hx.nn a ha) (hy.nn b hb)
    · obtain ⟨hs1, hs2, hs3⟩ := (Vg gj).1 hs
      obtain ⟨i0, hi0, hb0⟩ := clq_bit gj hs
      rw [hJl] at hi0 hs1 hs3
      obtain ⟨a0, b0, ha0, hb0', rfl⟩ := dec i0 hi0
      have adj : ∀ {a b a' b'}, a < n → b < m → a' < n → b' < m → s.testBit (a * m + b) = true → s.testBit (a' * m + b') = true → nq xs a a' = true ∧ nq ys b b' = true := fun {a b a' b'} ha hb ha' hb' h1 h2 => by
        by_cases e : a * m + b = a' * m + b'
        · have e1 : a = a' := by have := congrArg (· / m) e; simpa only [pair_div hb, pair_div hb'] using this
          have e2 : b = b' := by have := congrArg (· % m) e; simpa only [pair_mod hb, pair_mod hb'] using this
          rw [e1, e2]; exact ⟨nq_self _ _, nq_self _ _⟩
        · have := hs3 _ (pair_lt ha hb) h1 _ (Ne.symm e) h2
          rw [hgb ha ha' hb hb', decide_eq_true e, Bool.true_and, Bool.and_eq_true] at this
          exact this
      obtain ⟨A, hA⟩ : ∃ A, A = mk (fun a => (List.range m).any fun b => s.testBit (a * m + b)) n := ⟨_, rfl⟩
      obtain ⟨B, hB⟩ : ∃ B, B = mk (fun b => (List.range n).any fun a => s.testBit (a * m + b)) m := ⟨_, rfl⟩
      have hAc : A ∈ clq xs := by
        rw [hA, hn]
        refine mk_clq gx ⟨a0, hn ▸ ha0, List.any_eq_true.2 ⟨b0, List.mem_range.2 hb0', hb0⟩⟩ fun a a' ha ha' hne h1 h2 => ?_
        obtain ⟨b, hb, h1⟩ := List.any_eq_true.1 h1
        obtain ⟨b', hb', h2⟩ := List.any_eq_true.1 h2
        have := (adj (hn ▸ ha) (List.mem_range.1 hb) (hn ▸ ha') (List.mem_range.1 hb') h1 h2).1
        rw [nq, Bool.or_eq_true, beq_iff_eq] at this
        exact this.resolve_left hne
      have hBc : B ∈ clq ys := by
        rw [hB, hm]
        refine mk_clq gy ⟨b0, hm ▸ hb0', List.any_eq_true.2 ⟨a0, List.mem_range.2 ha0, by rw [← hm]; exact hb0⟩⟩ fun b b' hb hb' hne h1 h2 => ?_
        obtain ⟨a, ha, h1⟩ := List.any_eq_true.1 h1
        obtain ⟨a', ha', h2⟩ := List.any_eq_true.1 h2
        rw [← hm] at h1 h2
        have := (adj (List.mem_range.1 ha) (hm ▸ hb) (List.mem_range.1 ha') (hm ▸ hb') h1 h2).2
        rw [nq, Bool.or_eq_true, beq_iff_eq] at this
        exact this.resolve_left hne
      have hA1 := hx.le A hAc
      have hB1 := hy.le B hBc
      have hA0 : 0 ≤ Bq.dot (Bq.bitQ A) x n := qsum_nn fun a ha => Rat.mul_nonneg (Bq.bitQ_nn _ _) (hx.nn a ha)
      have hB0 : 0 ≤ Bq.dot (Bq.bitQ B) y m := qsum_nn fun b hb => Rat.mul_nonneg (Bq.bitQ_nn _ _) (hy.nn b hb)
      have e : Bq.dot (Bq.bitQ s) (fun i => x (i / m) * y (i % m)) (n * m) ≤ Bq.sumTo (fun a => Bq.dot (Bq.bitQ B) y m * (Bq.bitQ A a * x a)) n := by
        rw [Bq.dot, qsum_prod]
        refine Bq.sumTo_le fun a ha => ?_
        have e2 : Bq.dot (Bq.bitQ B) y m * (Bq.bitQ A a * x a) = Bq.sumTo (fun b => (Bq.bitQ A a * x a) * (Bq.bitQ B b * y b)) m := by
          rw [Bq.sumTo_mul, Rat.mul_comm]; rfl
        rw [e2]
        refine Bq.sumTo_le fun b hb => ?_
        have e3 : (fun i => x (i / m) * y (i % m)) (a * m + b) = x a * y b := hz a b hb
        simp only at e3
        rw [e3]
        have hx0 := hx.nn a ha
        have hy0 := hy.nn b hb
        have hxy := Rat.mul_nonneg hx0 hy0
        by_cases hbt : s.testBit (a * m + b) = true
        · have hbA : A.testBit a = true := by rw [hA, mk_bit, decide_eq_true ha, Bool.true_and]; exact List.any_eq_true.2 ⟨b, List.mem_range.2 hb, hbt⟩
          have hbB : B.testBit b = true := by rw [hB, mk_bit, decide_eq_true hb, Bool.true_and]; exact List.any_eq_true.2 ⟨a, List.mem_range.2 ha, hbt⟩
          rw [Bq.bitQ, Bq.bitQ, Bq.bitQ, if_pos hbt, if_pos hbA, if_pos hbB]; grind
        · have h1 : Bq.bitQ s (a * m + b) = 0 := by rw [Bq.bitQ, if_neg hbt]
          rw [h1, Rat.zero_mul]
          exact Rat.mul_nonneg (Rat.mul_nonneg (Bq.bitQ_nn _ _) hx0) (Rat.mul_nonneg (Bq.bitQ_nn _ _) hy0)
      rw [hJl]
      refine Rat.le_trans e ?_
      rw [Bq.sumTo_mul]
      have e4 : Bq.sumTo (fun a => Bq.bitQ A a * x a) n = Bq.dot (Bq.bitQ A) x n := rfl
      rw [e4]
      have := Rat.mul_le_mul_of_nonneg_left hA1 hB0
      rw [Rat.mul_one] at this
      exact Rat.le_trans this hB1
theorem sumL_get (i : Nat) (hi : i < xs.length + ys.length) : (sumL xs ys).getD i 0 = if i < xs.length then xs.getD i 0 else ((gn ys (i - xs.length) * 2 ^ xs.length : Nat) : Int) := by
  rw [sumL, sumTo, List.getD]
  by_cases h : i < xs.length
  · rw [List.getElem?_append_left h, if_pos h]; rfl
  · rw [List.getElem?_append_right (by omega), if_neg h, List.getElem?_map, List.getElem?_range (by omega)]; rfl
theorem gn_lt {xs : List Int} (g : Gs xs) {i : Nat} (hi : i < xs.length) : gn xs i < 2 ^ xs.length := by
  have := (g.2.2 i hi).1
  have h4 : ((gn xs i : Nat) : Int) = xs.getD i 0 := by rw [gn]; omega
  have h5 : ((2 ^ xs.length : Nat) : Int) = (2 : Int) ^ xs.length := by simp
  omega
theorem sum_gb {i j : Nat} (hi : i < xs.length + ys.length) : gb (sumL xs ys) i j = if i < xs.length then gb xs i j else decide (xs.length ≤ j) && gb ys (i - xs.length) (j - xs.length) := by
  rw [gb, sumL_get i hi]
  split
  · rfl
  · rw [Int.toNat_natCast, Nat.testBit_mul_two_pow]; rfl
theorem gb_out (g : Gs xs) {i j : Nat} (hi : i < xs.length) (hj : xs.length ≤ j) : gb xs i j = false :=
  Nat.testBit_lt_two_pow (Nat.lt_of_lt_of_le (gn_lt g hi) (Nat.pow_le_pow_right (by decide) hj))
theorem sumL_gs (gx : Gs xs) (gy : Gs ys) (h6 : xs.length + ys.length ≤ 6) : Gs (sumL xs ys) := by
  refine ⟨by rw [sumL_len]; have := gx.1; omega, by rw [sumL_len]; exact h6, fun i hi => ?_⟩
  rw [sumL_len] at hi ⊢
  refine ⟨?_, ?_, fun j hj => ?_⟩
  · rw [sumL_get i hi]
    have e : ((2 ^ (xs.length + ys.length) : Nat) : Int) = (2 : Int) ^ (xs.length + ys.length) := by simp
    split
    · next h =>
      have h1 := (gx.2.2 i h).1
      have h2 := gn_lt gx h
      have h3 : 2 ^ xs.length ≤ 2 ^ (xs.length + ys.length) := Nat.pow_le_pow_right (by decide) (by omega)
      have h4 : ((gn xs i : Nat) : Int) = xs.getD i 0 := by rw [gn]; omega
      omega
    · next h =>
      have h2 := gn_lt gy (i := i - xs.length) (by omega)
      have h3 : gn ys (i - xs.length) * 2 ^ xs.length < 2 ^ ys.length * 2 ^ xs.length := Nat.mul_lt_mul_of_pos_right h2 (Nat.two_pow_pos _)
      rw [← Nat.pow_add, Nat.add_comm ys.length] at h3
      omega
  · rw [sum_gb hi]
    split
    · next h => exact (gx.2.2 i h).2.1
    · next h => rw [(gy.2.2 _ (by omega)).2.1, Bool.and_false]
  · rw [sum_gb hi, sum_gb hj]
    by_cases h1 : i < xs.length
    · rw [if_pos h1]
      by_cases h2 : j < xs.length
      · rw [if_pos h2]; exact (gx.2.2 i h1).2.2 j h2
      · rw [if_neg h2, decide_eq_false (by omega), Bool.false_and]; exact gb_out gx h1 (by omega)
    · rw [if_neg h1]
      by_cases h2 : j < xs.length
      · rw [if_pos h2, decide_eq_false (by omega), Bool.false_and]; exact (gb_out gx h2 (by omega)).symm
      · rw [if_neg h2, decide_eq_true (by omega), decide_eq_true (by omega), Bool.true_and, Bool.true_and]
        exact (gy.2.2 _ (by omega)).2.2 _ (by omega)
theorem sum_weigh (gx : Gs xs) (gy : Gs ys) (h6 : xs.length + ys.length ≤ 6) {p q r : Rat} (hp : WQ xs p) (hq : WQ ys q) (hr : WQ (sumL xs ys) r) : r = p + q := by
  have gs := sumL_gs gx gy h6
  obtain ⟨n, hn⟩ : ∃ n, n = xs.length := ⟨_, rfl⟩
  obtain ⟨m, hm⟩ : ∃ m, m = ys.length := ⟨_, rfl⟩
  have hSl : (sumL xs ys).length = n + m := by rw [sumL_len, hn, hm]
  have hgb : ∀ {i j}, i < n + m → gb (sumL xs ys) i j = if i < n then gb xs i j else decide (n ≤ j) && gb ys (i - n) (j - n) := fun {i j} hi => by
    rw [hn]; exact sum_gb (by omega)
  refine Rat.le_antisymm ?_ ?_
  · obtain ⟨z, hz, rfl⟩ := hr.1.at_
    rw [hSl] at hz ⊢
    rw [qsum_app]
    refine radd_le ?_ ?_
    · rw [hn]
      refine hp.1.le z ⟨fun i hi => hz.nn i (by omega), fun A hA => ?_⟩
      obtain ⟨hA1, hA2, hA3⟩ := (Vg gx).1 hA
      have h1 := hz.le A ((Vg gs).2 ⟨by rw [hSl]; exact Nat.lt_of_lt_of_le hA1 (Nat.pow_le_pow_right (by decide) (by omega)), hA2, fun i hi hb j hj hb2 => by
        have h2 := bit_in hA1 hb
        rw [hgb (by omega), if_pos (by omega)]
        exact hA3 i h2 hb j hj hb2⟩)
      rw [Bq.dot, qsum_app, hn, Bq.sumTo_zero (n := m) (fun i _ => by rw [Bq.bitQ, if_neg (fun hb => by have := bit_in hA1 hb; omega), Rat.zero_mul]), Rat.add_zero] at h1
      exact h1
    · rw [hm]
      refine hq.1.le (fun i => z (n + i)) ⟨fun i hi => hz.nn (n + i) (by omega), fun B hB => ?_⟩
      obtain ⟨hB1, hB2, hB3⟩ := (Vg gy).1 hB
      have hbt : ∀ j, (B * 2 ^ n).testBit j = (decide (n ≤ j) && B.testBit (j - n)) := fun j => by rw [Nat.testBit_mul_two_pow]
      have h1 := hz.le (B * 2 ^ n) ((Vg gs).2 ⟨by
        rw [hSl, Nat.add_comm, Nat.pow_add]
        exact Nat.mul_lt_mul_of_pos_right (hm ▸ hB1) (Nat.two_pow_pos _), Nat.mul_pos hB2 (Nat.two_pow_pos _), fun i hi hb j hj hb2 => by
        rw [hbt, Bool.and_eq_true, decide_eq_true_eq] at hb hb2
        rw [hgb (by omega), if_neg (by omega), decide_eq_true hb2.1, Bool.true_and]
        exact hB3 _ (by omega) hb.2 _ (by omega) hb2.2⟩)
      rw [Bq.dot, qsum_app, Bq.sumTo_zero (n := n) (fun i hi => by rw [Bq.bitQ, hbt, decide_eq_false (by omega), Bool.false_and, if_neg (by decide), Rat.zero_mul]), Rat.zero_add, hm] at h1
      have e : Bq.dot (Bq.bitQ B) (fun i => z (n + i)) ys.length = Bq.sumTo (fun i => Bq.bitQ (B * 2 ^ n) (n + i) * z (n + i)) ys.length := Bq.sumTo_congr fun i _ => by
        have : Bq.bitQ (B * 2 ^ n) (n + i) = Bq.bitQ B i := by rw [Bq.bitQ, Bq.bitQ, hbt, decide_eq_true (by omega), Bool.true_and, Nat.add_sub_cancel_left]
        rw [this]
      rw [e]; exact h1
  · obtain ⟨x, hx, hxp⟩ := hp.1.at_
    obtain ⟨y, hy, hyq⟩ := hq.1.at_
    rw [← hn] at hx hxp
    rw [← hm] at hy hyq
    obtain ⟨z, hz⟩ : ∃ z : Nat → Rat, z = fun i => if i < n then x i else y (i - n) := ⟨_, rfl⟩
    have z1 : ∀ i, i < n → z i = x i := fun i hi => by rw [hz]; exact if_pos hi
    have z2 : ∀ i, z (n + i) = y i := fun i => by
      rw [hz]
      show (if n + i < n then x (n + i) else y (n + i - n)) = y i
      rw [if_neg (by omega), Nat.add_sub_cancel_left]
    have hzs : Bq.sumTo z (n + m) = p + q := by
      have s1 : Bq.sumTo z n = Bq.sumTo x n := Bq.sumTo_congr z1
      have s2 : Bq.sumTo (fun i => z (n + i)) m = Bq.sumTo y m := Bq.sumTo_congr fun i _ => z2 i
      rw [qsum_app, s1, s2, hxp, hyq]
    rw [← hzs]
    have h1 := hr.1.le z
    rw [hSl] at h1
    refine h1 ⟨fun i hi => ?_, fun s hs => ?_⟩
    · by_cases h : i < n
      · rw [z1 i h]; exact hx.nn i h
      · obtain ⟨t, rfl⟩ : ∃ t, i = n + t := ⟨i - n, by omega⟩
        rw [z2]; exact hy.nn t (by omega)
    · obtain ⟨hs1, hs2, hs3⟩ := (Vg gs).1 hs
      rw [hSl] at hs1 hs3
      by_cases hlow : ∃ i, i < n ∧ s.testBit i = true
      · obtain ⟨i0, hi0, hb0⟩ := hlow
        have hin : ∀ j, s.testBit j = true → j < n := fun j hj => by
          by_cases e : j = i0
          · omega
          · have := hs3 i0 (by omega) hb0 j e hj
            rw [hgb (by omega), if_pos hi0] at this
            refine Nat.lt_of_not_le fun hge => ?_
            rw [gb_out gx (hn ▸ hi0) (hn ▸ hge)] at this; cases this
        have hsx : s ∈ clq xs := (Vg gx).2 ⟨by
          rw [← hn]
          exact Nat.lt_pow_two_of_testBit s fun i hi => by
            cases hb : s.testBit i with
            | false => rfl
            | true => have := hin i hb; omega, hs2, fun i hi hb j hj hb2 => by
          have := hs3 i (by omega) hb j hj hb2
          rw [hgb (by omega), if_pos (by omega)] at this; exact this⟩
        have h2 := hx.le s hsx
        rw [Bq.dot, qsum_app, Bq.sumTo_zero (n := m) (fun i _ => by rw [Bq.bitQ, if_neg (fun hb => by have := hin _ hb; omega), Rat.zero_mul]), Rat.add_zero]
        have e : Bq.sumTo (fun i => Bq.bitQ s i * z i) n = Bq.dot (Bq.bitQ s) x n := Bq.sumTo_congr fun i hi => by rw [z1 i hi]
        rw [e]; exact h2
      · have hout : ∀ j, j < n → s.testBit j = false := fun j hj => by
          cases hb : s.testBit j with
          | false => rfl
          | true => exact absurd ⟨j, hj, hb⟩ hlow
        obtain ⟨i0, hi0, hb0⟩ := clq_bit gs hs
        rw [hSl] at hi0
        have hi0n : n ≤ i0 := Nat.le_of_not_lt fun h => by rw [hout i0 h] at hb0; cases hb0
        have hsy : mk (fun j => s.testBit (n + j)) m ∈ clq ys := by
          rw [hm]
          refine mk_clq gy ⟨i0 - n, by omega, by rw [show n + (i0 - n) = i0 by omega]; exact hb0⟩ fun i j hi hj hij h1 h2 => ?_
          have := hs3 (n + i) (by omega) h1 (n + j) (by omega) h2
          rw [hgb (by omega), if_neg (by omega), decide_eq_true (by omega), Bool.true_and, Nat.add_sub_cancel_left, Nat.add_sub_cancel_left] at this
          exact this
        have h2 := hy.le _ hsy
        rw [Bq.dot, qsum_app, Bq.sumTo_zero (n := n) (fun i hi => by rw [Bq.bitQ, hout i hi, if_neg (by decide), Rat.zero_mul]), Rat.zero_add]
        have e : Bq.sumTo (fun i => Bq.bitQ s (n + i) * z (n + i)) m = Bq.dot (Bq.bitQ (mk (fun j => s.testBit (n + j)) m)) y m := Bq.sumTo_congr fun i hi => by
          rw [z2]
          have : Bq.bitQ s (n + i) = Bq.bitQ (mk (fun j => s.testBit (n + j)) m) i := by rw [Bq.bitQ, Bq.bitQ, mk_bit, decide_eq_true hi, Bool.true_and]
          rw [this]
        rw [e]; exact h2
/-! ### Codes of single signals -/
theorem wn_one (xs : List Int) : wn xs 1 = xs.length := Nat.pow_one _
theorem cf_one {a b : Nat} (ha : a < xs.length) (hb : b < xs.length) : cf xs 1 a b = nq xs a b := by
  rw [cf, cf, Nat.mod_eq_of_lt ha, Nat.mod_eq_of_lt hb, Bool.and_true]; rfl
theorem Wv {c : List Int} : code xs 1 c = true ↔ (∀ x ∈ c, 0 ≤ x ∧ x < xs.length) ∧ c.Pairwise fun x y => x < y ∧ nq xs y.toNat x.toNat = false := by
  rw [code_pw, wn_one]
  constructor
  · rintro ⟨h1, h2⟩
    refine ⟨h1, h2.imp_of_mem fun {x y} hx hy h => ⟨h.1, ?_⟩⟩
    have a := h1 x hx
    have b := h1 y hy
    rw [← cf_one (by omega) (by omega)]; exact h.2
  · rintro ⟨h1, h2⟩
    refine ⟨h1, h2.imp_of_mem fun {x y} hx hy h => ⟨h.1, ?_⟩⟩
    have a := h1 x hx
    have b := h1 y hy
    rw [cf_one (by omega) (by omega)]; exact h.2
theorem both_lenN (d : List Int) (m : Int) : ∀ c : List Int, (c.flatMap fun x => d.map fun y => x * m + y).length = c.length * d.length
  | [] => by simp
  | x :: c => by rw [List.flatMap_cons, List.length_append, List.length_map, both_lenN d m c, List.length_cons, Nat.succ_mul, Nat.add_comm]
theorem join_code (gx : Gs xs) (gy : Gs ys) {c d : List Int} (hc : code xs 1 c = true) (hd : code ys 1 d = true) : code (joinL xs ys) 1 (c.flatMap fun x => d.map fun y => x * (ys.length : Int) + y) = true := by
  obtain ⟨c1, c2⟩ := Wv.1 hc
  obtain ⟨d1, d2⟩ := Wv.1 hd
  have em : ∀ a b : Nat, ((a : Int) * (ys.length : Int) + (b : Int)) = ((a * ys.length + b : Nat) : Int) := fun a b => by simp
  refine Wv.2 ⟨fun z hz => ?_, List.pairwise_flatMap.2 ⟨fun x hx => List.pairwise_map.2 (d2.imp_of_mem fun {y y'} hy hy' h => ?_), c2.imp_of_mem fun {x x'} hx hx' h z hz z' hz' => ?_⟩⟩
  · obtain ⟨x, hx, hz⟩ := List.mem_flatMap.1 hz
    obtain ⟨y, hy, rfl⟩ := List.mem_map.1 hz
    obtain ⟨a, rfl⟩ := Int.eq_ofNat_of_zero_le (c1 x hx).1
    obtain ⟨b, rfl⟩ := Int.eq_ofNat_of_zero_le (d1 y hy).1
    have ha := (c1 _ hx).2
    have hb := (d1 _ hy).2
    rw [em, joinL_len]
    have := pair_lt (n := xs.length) (m := ys.length) (a := a) (b := b) (by omega) (by omega)
    omega
  · obtain ⟨a, rfl⟩ := Int.eq_ofNat_of_zero_le (c1 x hx).1
    obtain ⟨b, rfl⟩ := Int.eq_ofNat_of_zero_le (d1 y hy).1
    obtain ⟨b', rfl⟩ := Int.eq_ofNat_of_zero_le (d1 y' hy').1
    have ha := (c1 _ hx).2
    have hb := (d1 _ hy).2
    have hb' := (d1 _ hy').2
    obtain ⟨h1, h2⟩ := h
    rw [em, em, Int.toNat_natCast, Int.toNat_natCast]
    rw [Int.toNat_natCast, Int.toNat_natCast] at h2
    refine ⟨by omega, ?_⟩
    rw [nq, join_gb gx gy (by omega) (by omega) (by omega) (by omega), h2, Bool.and_false, Bool.and_false, Bool.or_false, beq_eq_false_iff_ne]; omega
  · obtain ⟨y, hy, rfl⟩ := List.mem_map.1 hz
    obtain ⟨y', hy', rfl⟩ := List.mem_map.1 hz'
    obtain ⟨a, rfl⟩ := Int.eq_ofNat_of_zero_le (c1 x hx).1
    obtain ⟨a', rfl⟩ := Int.eq_ofNat_of_zero_le (c1 x' hx').1
    obtain ⟨b, rfl⟩ := Int.eq_ofNat_of_zero_le (d1 y hy).1
    obtain ⟨b', rfl⟩ := Int.eq_ofNat_of_zero_le (d1 y' hy').1
    have ha := (c1 _ hx).2
    have ha' := (c1 _ hx').2
    have hb := (d1 _ hy).2
    have hb' := (d1 _ hy').2
    obtain ⟨h1, h2⟩ := h
    rw [em, em, Int.toNat_natCast, Int.toNat_natCast]
    rw [Int.toNat_natCast, Int.toNat_natCast] at h2
    have hlt : a * ys.length + b < a' * ys.length + b' := by
      have : (a + 1) * ys.length ≤ a' * ys.length := Nat.mul_le_mul_right _ (by omega)
      rw [Nat.succ_mul] at this
      omega
    refine ⟨by omega, ?_⟩
    rw [nq, join_gb gx gy (by omega) (by omega) (by omega) (by omega), h2, Bool.false_and, Bool.and_false, Bool.or_false, beq_eq_false_iff_ne]; omega
theorem join_most (gx : Gs xs) (gy : Gs ys) (h6 : xs.length * ys.length ≤ 6) : (codeL (Xr xs 1)).length * (codeL (Xr ys 1)).length ≤ (codeL (Xr (joinL xs ys) 1)).length := by
  have gj := joinL_gs gx gy h6
  have h1 := code_max gj (k := 1) (by rw [wn_one, joinL_len]; omega) (join_code gx gy (codeL_code gx (k := 1) (by rw [wn_one]; have := gx.2.1; omega)) (codeL_code gy (k := 1) (by rw [wn_one]; have := gy.2.1; omega)))
  rwa [both_lenN, List.length_map, List.length_map] at h1
theorem filter_len (l : List Int) (p : Int → Bool) : l.length = (l.filter p).length + (l.filter fun z => !p z).length := by
  induction l with
  | nil => rfl
  | cons x l ih =>
    rw [List.filter_cons, List.filter_cons, List.length_cons]
    cases p x <;> simp <;> omega
theorem sum_nq (gx : Gs xs) {i j : Nat} (hi : i < xs.length + ys.length) : nq (sumL xs ys) i j = if i < xs.length then nq xs i j else (decide (xs.length ≤ j) && nq ys (i - xs.length) (j - xs.length)) := by
  rw [nq, sum_gb hi]
  split
  · rfl
  · next h =>
    rw [nq]
    by_cases hj : xs.length ≤ j
    · rw [decide_eq_true hj, Bool.true_and, Bool.true_and]
      congr 1
      rw [Bool.eq_iff_iff, beq_iff_eq, beq_iff_eq]; omega
    · rw [decide_eq_false hj, Bool.false_and, Bool.false_and, Bool.or_false, beq_eq_false_iff_ne]; omega
theorem sum_most (gx : Gs xs) (gy : Gs ys) (h6 : xs.length + ys.length ≤ 6) : (codeL (Xr (sumL xs ys) 1)).length = (codeL (Xr xs 1)).length + (codeL (Xr ys 1)).length := by
  have gs := sumL_gs gx gy h6
  have wS : wn (sumL xs ys) 1 ≤ 64 := by rw [wn_one, sumL_len]; omega
  have wX : wn xs 1 ≤ 64 := by rw [wn_one]; omega
  have wY : wn ys 1 ≤ 64 := by rw [wn_one]; omega
  refine Nat.le_antisymm ?_ ?_
  · obtain ⟨e, he⟩ : ∃ e, e = (codeL (Xr (sumL xs ys) 1)).map Int.ofNat := ⟨_, rfl⟩
    have hec := codeL_code gs wS
    rw [← he] at hec
    obtain ⟨e1, e2⟩ := Wv.1 hec
    rw [sumL_len] at e1
    have hx := code_max gx wX (c := e.filter fun z => decide (z < (xs.length : Int))) (Wv.2 ⟨fun z hz => by
      obtain ⟨h1, h2⟩ := List.mem_filter.1 hz
      exact ⟨(e1 z h1).1, of_decide_eq_true h2⟩, (e2.sublist List.filter_sublist).imp_of_mem fun {z z'} hz hz' h => ⟨h.1, by
      obtain ⟨h1, h2⟩ := List.mem_filter.1 hz
      obtain ⟨h3, h4⟩ := List.mem_filter.1 hz'
      have a := e1 z h1
      have b := e1 z' h3
      have h4 := of_decide_eq_true h4
      have h5 := h.2
      rw [sum_nq gx (by omega), if_pos (by omega)] at h5; exact h5⟩⟩)
    have hy := code_max gy wY (c := (e.filter fun z => !decide (z < (xs.length : Int))).map fun z => z - (xs.length : Int)) (Wv.2 ⟨fun z hz => by
      obtain ⟨u, hu, rfl⟩ := List.mem_map.1 hz
      obtain ⟨h1, h2⟩ := List.mem_filter.1 hu
      have h3 := of_decide_eq_false (Bool.not_eq_true' _ ▸ h2 : decide (u < (xs.length : Int)) = false)
      have := e1 u h1
      omega, List.pairwise_map.2 ((e2.sublist List.filter_sublist).imp_of_mem fun {z z'} hz hz' h => by
      obtain ⟨h1, h2⟩ := List.mem_filter.1 hz
      obtain ⟨h3, h4⟩ := List.mem_filter.1 hz'
      have h2 := of_decide_eq_false (Bool.not_eq_true' _ ▸ h2 : decide (z < (xs.length : Int)) = false)
      have h4 := of_decide_eq_false (Bool.not_eq_true' _ ▸ h4 : decide (z' < (xs.length : Int)) = false)
      have a := e1 z h1
      have b := e1 z' h3
      have h5 := h.2
      rw [sum_nq gx (by omega), if_neg (by omega), decide_eq_true (by omega), Bool.true_and] at h5
      refine ⟨by have := h.1; omega, ?_⟩
      rw [show (z' - (xs.length : Int)).toNat = z'.toNat - xs.length by omega, show (z - (xs.length : Int)).toNat = z.toNat - xs.length by omega]
      exact h5)⟩)
    have hl := filter_len e (fun z => decide (z < (xs.length : Int)))
    rw [List.length_map] at hy
    have : e.length = (codeL (Xr (sumL xs ys) 1)).length := by rw [he, List.length_map]
    omega
  · obtain ⟨c, hc⟩ : ∃ c, c = (codeL (Xr xs 1)).map Int.ofNat := ⟨_, rfl⟩
    obtain ⟨d, hd⟩ : ∃ d, d = (codeL (Xr ys 1)).map Int.ofNat := ⟨_, rfl⟩
    have hcc := codeL_code gx wX
    have hdc := codeL_code gy wY
    rw [← hc] at hcc
    rw [← hd] at hdc
    obtain ⟨c1, c2⟩ := Wv.1 hcc
    obtain ⟨d1, d2⟩ := Wv.1 hdc
    have h1 := code_max gs wS (c := c ++ d.map fun z => (xs.length : Int) + z) (Wv.2 ⟨fun z hz => by
      rw [sumL_len]
      rcases List.mem_append.1 hz with h | h
      · have := c1 z h; omega
      · obtain ⟨u, hu, rfl⟩ := List.mem_map.1 h
        have := d1 u hu; omega, List.pairwise_append.2 ⟨c2.imp_of_mem fun {z z'} hz hz' h => ⟨h.1, by
      have a := c1 z hz
      have b := c1 z' hz'
      rw [sum_nq gx (by omega), if_pos (by omega)]; exact h.2⟩, List.pairwise_map.2 (d2.imp_of_mem fun {z z'} hz hz' h => ⟨by have := h.1; omega, by
      have a := d1 z hz
      have b := d1 z' hz'
      rw [sum_nq gx (by omega), if_neg (by omega), decide_eq_true (by omega), Bool.true_and, show ((xs.length : Int) + z').toNat - xs.length = z'.toNat by omega, show ((xs.length : Int) + z).toNat - xs.length = z.toNat by omega]; exact h.2⟩), fun z hz z' hz' => by
      obtain ⟨u, hu, rfl⟩ := List.mem_map.1 hz'
      have a := c1 z hz
      have b := d1 u hu
      refine ⟨by omega, ?_⟩
      rw [sum_nq gx (by omega), if_neg (by omega), decide_eq_false (by omega), Bool.false_and]⟩⟩)
    rw [List.length_append, List.length_map, hc, hd, List.length_map, List.length_map] at h1
    exact h1
end
theorem num_eq (q : Rat) : ((q.num : Int) : Rat) = q * ((q.den : Int) : Rat) := by
  have h := Rat.num_divInt_den q
  rw [Rat.divInt_eq_div] at h
  have h0 : ((q.den : Int) : Rat) ≠ 0 := fun hc => by
    have := Rat.intCast_eq_zero_iff.1 hc
    have := q.den_pos; omega
  have h1 := Rat.div_mul_cancel (a := (q.num : Rat)) h0
  rw [h] at h1; exact h1.symm
theorem mul_ints {p q r : Rat} (h : r = p * q) : r.num * p.den * q.den = p.num * q.num * r.den := by
  have e : ((r.num * p.den * q.den : Int) : Rat) = ((p.num * q.num * r.den : Int) : Rat) := by
    rw [Rat.intCast_mul, Rat.intCast_mul, Rat.intCast_mul, Rat.intCast_mul, num_eq r, num_eq p, num_eq q, h]; grind
  exact Rat.intCast_inj.1 e
theorem add_ints {p q r : Rat} (h : r = p + q) : r.num * p.den * q.den = (p.num * q.den + q.num * p.den) * r.den := by
  have e : ((r.num * p.den * q.den : Int) : Rat) = (((p.num * q.den + q.num * p.den) * r.den : Int) : Rat) := by
    rw [Rat.intCast_mul, Rat.intCast_mul, Rat.intCast_mul, Rat.intCast_add, Rat.intCast_mul, Rat.intCast_mul, num_eq r, num_eq p, num_eq q, h]; grind
  exact Rat.intCast_inj.1 e
theorem mulB {a b : Int} {A B : Nat} (ha : a.natAbs ≤ A) (hb : b.natAbs ≤ B) (h : A * B < 9223372036854775808) : mulV .i64 a b = a * b ∧ (a * b).natAbs ≤ A * B := by
  have h1 : (a * b).natAbs ≤ A * B := by rw [Int.natAbs_mul]; exact Nat.mul_le_mul ha hb
  exact ⟨mulV_id (by omega) (by omega), h1⟩
theorem weighR_form {xs : List Int} {r : Value} (hr : weighR xs r) : ∃ x y e, r = .tuple #[.agg #[Zy x, Zy y], .int .i64 e] ∧ ((grs xs = false ∧ e = 2) ∨ (grs xs = true ∧ e = 0 ∧ ∃ q : Rat, x = q.num ∧ y = q.den ∧ WQ xs q)) := by
  cases hg : grs xs with
  | false => rw [weighR, hg, if_neg (by decide)] at hr; exact ⟨0, 0, 2, hr, .inl ⟨rfl, rfl⟩⟩
  | true =>
    rw [weighR, hg, if_pos rfl] at hr
    obtain ⟨q, h1, h2⟩ := hr
    exact ⟨q.num, q.den, 0, h1, .inr ⟨rfl, rfl, q, rfl, rfl, h2⟩⟩
theorem code1_ok {h' : Yd} {xs : List Int} {r : Value} (hg : grs xs = true) (hr : codeR h' xs 1 r) : ∃ w, r = .tuple #[w, .int .i64 0] ∧ OwnSl 3 h' w ((codeL (Xr xs 1)).map Int.ofNat) := by
  have h6 := (Wf.1 hg).2.1
  rw [codeR, if_pos ⟨hg, by decide, by decide⟩] at hr
  rw [if_pos (by show wn xs 1 ≤ 64; rw [wn_one]; omega)] at hr
  exact hr
theorem gs_rng {xs : List Int} (g : Gs xs) : ∀ x ∈ xs, -9223372036854775808 ≤ x ∧ x < 9223372036854775808 := fun x hx => by
  obtain ⟨t, ht, rfl⟩ := List.mem_iff_getElem.1 hx
  have := gs_lt g ht
  rw [List.getD, List.getElem?_eq_getElem ht, Option.getD_some] at this
  omega
end Go.Proofs.Tryd.Am

namespace Go.Proofs.Tryd.Am
open Go.Am
set_option maxRecDepth 100000
/-! 11: planchet planchetlaw05.SureMultiplies -/
@[reducible] def q11_0 : SCode := .region [⟨some 4, .assign (.const (.bool false)), none⟩]
@[reducible] def q11_1 : SCode := .region [⟨some 23, .move (.tmp 0), none⟩,
    ⟨some 24, .call { callee := .value (.func 18), args := #[.tmp 23], argTypes := #[22] }, none⟩,
    ⟨some 25, .call { callee := .value (.func 35), args := #[.tmp 24], argTypes := #[22] }, none⟩,
    ⟨some 22, .move (.tmp 25), none⟩,
    ⟨some 26, .extract (.tmp 22) 0, none⟩,
    ⟨some 27, .extract (.tmp 22) 1, none⟩,
    ⟨some 5, .alloc 44, none⟩,
    ⟨none, .store 44 (.tmp 5) (.tmp 26), none⟩,
    ⟨some 6, .assign (.tmp 27), none⟩]
@[reducible] def q11_2 : SCode := .region [⟨some 29, .move (.tmp 1), none⟩,
    ⟨some 30, .call { callee := .value (.func 18), args := #[.tmp 29], argTypes := #[22] }, none⟩,
    ⟨some 31, .call { callee := .value (.func 35), args := #[.tmp 30], argTypes := #[22] }, none⟩,
    ⟨some 28, .move (.tmp 31), none⟩,
    ⟨some 32, .extract (.tmp 28) 0, none⟩,
    ⟨some 33, .extract (.tmp 28) 1, none⟩,
    ⟨some 7, .alloc 44, none⟩,
    ⟨none, .store 44 (.tmp 7) (.tmp 32), none⟩,
    ⟨some 8, .assign (.tmp 33), none⟩]
@[reducible] def q11_3 : SCode := .region [⟨some 34, .move (.tmp 6), none⟩,
    ⟨some 35, .binOp .neq 23 (.tmp 34) (.const (.int .i64 0)) 23, none⟩,
    ⟨some 36, .move (.tmp 35), none⟩,
    ⟨some 37, .move (.tmp 8), some (36, false)⟩,
    ⟨some 38, .binOp .neq 23 (.tmp 37) (.const (.int .i64 0)) 23, some (36, false)⟩,
    ⟨some 39, .pick (.tmp 36) (.const (.bool true)) (.tmp 38), none⟩,
    ⟨some 40, .move (.tmp 39), none⟩,
    ⟨some 41, .move (.tmp 0), some (40, false)⟩,
    ⟨some 42, .call { callee := .value (.func 20), args := #[.tmp 41], argTypes := #[22] }, some (40, false)⟩,
    ⟨some 43, .unOp .not 4 (.tmp 42), some (40, false)⟩,
    ⟨some 44, .pick (.tmp 40) (.const (.bool true)) (.tmp 43), none⟩,
    ⟨some 45, .move (.tmp 44), none⟩,
    ⟨some 46, .move (.tmp 1), some (45, false)⟩,
    ⟨some 47, .call { callee := .value (.func 20), args := #[.tmp 46], argTypes := #[22] }, some (45, false)⟩,
    ⟨some 48, .unOp .not 4 (.tmp 47), some (45, false)⟩,
    ⟨some 49, .pick (.tmp 45) (.const (.bool true)) (.tmp 48), none⟩]
@[reducible] def q11_4 : SCode := .region [⟨some 50, .move (.tmp 6), none⟩,
    ⟨some 51, .binOp .eql 23 (.tmp 50) (.const (.int .i64 2)) 23, none⟩,
    ⟨some 52, .move (.tmp 51), none⟩,
    ⟨some 53, .move (.tmp 8), some (52, false)⟩,
    ⟨some 54, .binOp .eql 23 (.tmp 53) (.const (.int .i64 2)) 23, some (52, false)⟩,
    ⟨some 55, .pick (.tmp 52) (.const (.bool true)) (.tmp 54), none⟩,
    ⟨some 56, .move (.tmp 55), none⟩,
    ⟨some 57, .call { callee := .value (.func 21), args := #[], argTypes := #[] }, some (56, true)⟩,
    ⟨some 58, .pick (.tmp 56) (.tmp 57) (.const (.bool false)), none⟩,
    ⟨some 4, .assign (.tmp 58), none⟩]
@[reducible] def q11_5 : SCode := .region [⟨some 60, .move (.tmp 0), none⟩,
    ⟨some 61, .call { callee := .value (.func 18), args := #[.tmp 60], argTypes := #[22] }, none⟩,
    ⟨some 62, .call { callee := .value (.func 19), args := #[.tmp 61, .const (.int .i64 1)], argTypes := #[22, 3] }, none⟩,
    ⟨some 59, .move (.tmp 62), none⟩,
    ⟨some 63, .extract (.tmp 59) 0, none⟩,
    ⟨some 64, .extract (.tmp 59) 1, none⟩,
    ⟨some 9, .assign (.tmp 63), none⟩,
    ⟨some 10, .assign (.tmp 64), none⟩]
@[reducible] def q11_6 : SCode := .region [⟨some 66, .move (.tmp 1), none⟩,
    ⟨some 67, .call { callee := .value (.func 18), args := #[.tmp 66], argTypes := #[22] }, none⟩,
    ⟨some 68, .call { callee := .value (.func 19), args := #[.tmp 67, .const (.int .i64 1)], argTypes := #[22, 3] }, none⟩,
    ⟨some 65, .move (.tmp 68), none⟩,
    ⟨some 69, .extract (.tmp 65) 0, none⟩,
    ⟨some 70, .extract (.tmp 65) 1, none⟩,
    ⟨some 11, .assign (.tmp 69), none⟩,
    ⟨some 12, .assign (.tmp 70), none⟩]
@[reducible] def q11_7 : SCode := .region [⟨some 71, .move (.tmp 10), none⟩,
    ⟨some 72, .binOp .neq 23 (.tmp 71) (.const (.int .i64 0)) 23, none⟩,
    ⟨some 73, .move (.tmp 72), none⟩,
    ⟨some 74, .move (.tmp 12), some (73, false)⟩,
    ⟨some 75, .binOp .neq 23 (.tmp 74) (.const (.int .i64 0)) 23, some (73, false)⟩,
    ⟨some 76, .pick (.tmp 73) (.const (.bool true)) (.tmp 75), none⟩,
    ⟨some 77, .move (.tmp 76), none⟩,
    ⟨some 78, .load 44 (.tmp 5), some (77, false)⟩,
    ⟨some 79, .call { callee := .value (.func 36), args := #[.tmp 78], argTypes := #[44] }, some (77, false)⟩,
    ⟨some 80, .unOp .not 4 (.tmp 79), some (77, false)⟩,
    ⟨some 81, .pick (.tmp 77) (.const (.bool true)) (.tmp 80), none⟩,
    ⟨some 82, .move (.tmp 81), none⟩,
    ⟨some 83, .load 44 (.tmp 7), some (82, false)⟩,
    ⟨some 84, .call { callee := .value (.func 36), args := #[.tmp 83], argTypes := #[44] }, some (82, false)⟩,
    ⟨some 85, .unOp .not 4 (.tmp 84), some (82, false)⟩,
    ⟨some 86, .pick (.tmp 82) (.const (.bool true)) (.tmp 85), none⟩]
@[reducible] def q11_8 : SCode := .region [⟨some 4, .assign (.const (.bool false)), none⟩]
@[reducible] def q11_9 : SCode := .region [⟨some 88, .move (.tmp 0), none⟩,
    ⟨some 89, .call { callee := .value (.func 18), args := #[.tmp 88], argTypes := #[22] }, none⟩,
    ⟨some 90, .move (.tmp 1), none⟩,
    ⟨some 91, .call { callee := .value (.func 18), args := #[.tmp 90], argTypes := #[22] }, none⟩,
    ⟨some 92, .call { callee := .value (.func 31), args := #[.tmp 89, .tmp 91], argTypes := #[22, 22] }, none⟩,
    ⟨some 87, .move (.tmp 92), none⟩,
    ⟨some 93, .extract (.tmp 87) 0, none⟩,
    ⟨some 94, .extract (.tmp 87) 1, none⟩,
    ⟨some 13, .assign (.tmp 93), none⟩,
    ⟨some 14, .assign (.tmp 94), none⟩]
@[reducible] def q11_10 : SCode := .region [⟨some 95, .move (.tmp 14), none⟩,
    ⟨some 96, .binOp .eql 23 (.tmp 95) (.const (.int .i64 0)) 23, none⟩]
@[reducible] def q11_11 : SCode := .region [⟨some 98, .move (.tmp 13), none⟩,
    ⟨some 99, .call { callee := .value (.func 26), args := #[.tmp 98], argTypes := #[22] }, none⟩,
    ⟨some 100, .call { callee := .value (.func 35), args := #[.tmp 99], argTypes := #[22] }, none⟩,
    ⟨some 97, .move (.tmp 100), none⟩,
    ⟨some 101, .extract (.tmp 97) 0, none⟩,
    ⟨some 102, .extract (.tmp 97) 1, none⟩,
    ⟨some 15, .alloc 44, none⟩,
    ⟨none, .store 44 (.tmp 15) (.tmp 101), none⟩,
    ⟨some 16, .assign (.tmp 102), none⟩]
@[reducible] def q11_12 : SCode := .region [⟨some 104, .move (.tmp 13), none⟩,
    ⟨some 105, .call { callee := .value (.func 19), args := #[.tmp 104, .const (.int .i64 1)], argTypes := #[22, 3] }, none⟩,
    ⟨some 103, .move (.tmp 105), none⟩,
    ⟨some 106, .extract (.tmp 103) 0, none⟩,
    ⟨some 107, .extract (.tmp 103) 1, none⟩,
    ⟨some 17, .assign (.tmp 106), none⟩,
    ⟨some 18, .assign (.tmp 107), none⟩]
@[reducible] def q11_13 : SCode := .region [⟨some 108, .move (.tmp 16), none⟩,
    ⟨some 109, .binOp .neq 23 (.tmp 108) (.const (.int .i64 0)) 23, none⟩,
    ⟨some 110, .move (.tmp 109), none⟩,
    ⟨some 111, .move (.tmp 18), some (110, false)⟩,
    ⟨some 112, .binOp .neq 23 (.tmp 111) (.const (.int .i64 0)) 23, some (110, false)⟩,
    ⟨some 113, .pick (.tmp 110) (.const (.bool true)) (.tmp 112), none⟩,
    ⟨some 114, .move (.tmp 113), none⟩,
    ⟨some 115, .fieldAddr 44 (.tmp 15) 0, some (114, false)⟩,
    ⟨some 116, .load 3 (.tmp 115), some (114, false)⟩,
    ⟨some 117, .fieldAddr 44 (.tmp 5) 1, some (114, false)⟩,
    ⟨some 118, .load 3 (.tmp 117), some (114, false)⟩,
    ⟨some 119, .binOp .mul 3 (.tmp 116) (.tmp 118) 3, some (114, false)⟩,
    ⟨some 120, .fieldAddr 44 (.tmp 7) 1, some (114, false)⟩,
    ⟨some 121, .load 3 (.tmp 120), some (114, false)⟩,
    ⟨some 122, .binOp .mul 3 (.tmp 119) (.tmp 121) 3, some (114, false)⟩,
    ⟨some 123, .fieldAddr 44 (.tmp 5) 0, some (114, false)⟩,
    ⟨some 124, .load 3 (.tmp 123), some (114, false)⟩,
    ⟨some 125, .fieldAddr 44 (.tmp 7) 0, some (114, false)⟩,
    ⟨some 126, .load 3 (.tmp 125), some (114, false)⟩,
    ⟨some 127, .binOp .mul 3 (.tmp 124) (.tmp 126) 3, some (114, false)⟩,
    ⟨some 128, .fieldAddr 44 (.tmp 15) 1, some (114, false)⟩,
    ⟨some 129, .load 3 (.tmp 128), some (114, false)⟩,
    ⟨some 130, .binOp .mul 3 (.tmp 127) (.tmp 129) 3, some (114, false)⟩,
    ⟨some 131, .binOp .neq 3 (.tmp 122) (.tmp 130) 3, some (114, false)⟩,
    ⟨some 132, .pick (.tmp 114) (.const (.bool true)) (.tmp 131), none⟩,
    ⟨some 133, .move (.tmp 132), none⟩,
    ⟨some 134, .move (.tmp 17), some (133, false)⟩,
    ⟨some 135, .call { callee := .builtin .len, args := #[.tmp 134], argTypes := #[22] }, some (133, false)⟩,
    ⟨some 136, .move (.tmp 9), some (133, false)⟩,
    ⟨some 137, .call { callee := .builtin .len, args := #[.tmp 136], argTypes := #[22] }, some (133, false)⟩,
    ⟨some 138, .move (.tmp 11), some (133, false)⟩,
    ⟨some 139, .call { callee := .builtin .len, args := #[.tmp 138], argTypes := #[22] }, some (133, false)⟩,
    ⟨some 140, .binOp .mul 3 (.tmp 137) (.tmp 139) 3, some (133, false)⟩,
    ⟨some 141, .binOp .lss 3 (.tmp 135) (.tmp 140) 3, some (133, false)⟩,
    ⟨some 142, .pick (.tmp 133) (.const (.bool true)) (.tmp 141), none⟩]
@[reducible] def q11_14 : SCode := .region [⟨some 4, .assign (.const (.bool false)), none⟩]
@[reducible] def q11_15 : SCode := .region [⟨some 143, .move (.tmp 14), none⟩,
    ⟨some 144, .binOp .neq 23 (.tmp 143) (.const (.int .i64 6)) 23, none⟩]
@[reducible] def q11_16 : SCode := .region [⟨some 4, .assign (.const (.bool false)), none⟩]
@[reducible] def q11_17 : SCode := .region [⟨some 146, .move (.tmp 0), none⟩,
    ⟨some 147, .call { callee := .value (.func 18), args := #[.tmp 146], argTypes := #[22] }, none⟩,
    ⟨some 148, .move (.tmp 1), none⟩,
    ⟨some 149, .call { callee := .value (.func 18), args := #[.tmp 148], argTypes := #[22] }, none⟩,
    ⟨some 150, .call { callee := .value (.func 32), args := #[.tmp 147, .tmp 149], argTypes := #[22, 22] }, none⟩,
    ⟨some 145, .move (.tmp 150), none⟩,
    ⟨some 151, .extract (.tmp 145) 0, none⟩,
    ⟨some 152, .extract (.tmp 145) 1, none⟩,
    ⟨some 19, .assign (.tmp 151), none⟩,
    ⟨some 6, .assign (.tmp 152), none⟩]
@[reducible] def q11_18 : SCode := .region [⟨some 153, .move (.tmp 6), none⟩,
    ⟨some 154, .binOp .neq 23 (.tmp 153) (.const (.int .i64 0)) 23, none⟩]
@[reducible] def q11_19 : SCode := .region [⟨some 155, .move (.tmp 6), none⟩,
    ⟨some 156, .binOp .eql 23 (.tmp 155) (.const (.int .i64 6)) 23, none⟩,
    ⟨some 157, .move (.tmp 156), none⟩,
    ⟨some 158, .call { callee := .value (.func 21), args := #[], argTypes := #[] }, some (157, true)⟩,
    ⟨some 159, .pick (.tmp 157) (.tmp 158) (.const (.bool false)), none⟩,
    ⟨some 4, .assign (.tmp 159), none⟩]
@[reducible] def q11_20 : SCode := .region [⟨some 161, .move (.tmp 19), none⟩,
    ⟨some 162, .call { callee := .value (.func 26), args := #[.tmp 161], argTypes := #[22] }, none⟩,
    ⟨some 163, .call { callee := .value (.func 35), args := #[.tmp 162], argTypes := #[22] }, none⟩,
    ⟨some 160, .move (.tmp 163), none⟩,
    ⟨some 164, .extract (.tmp 160) 0, none⟩,
    ⟨some 165, .extract (.tmp 160) 1, none⟩,
    ⟨some 20, .alloc 44, none⟩,
    ⟨none, .store 44 (.tmp 20) (.tmp 164), none⟩,
    ⟨some 6, .assign (.tmp 165), none⟩]
@[reducible] def q11_21 : SCode := .region [⟨some 167, .move (.tmp 19), none⟩,
    ⟨some 168, .call { callee := .value (.func 19), args := #[.tmp 167, .const (.int .i64 1)], argTypes := #[22, 3] }, none⟩,
    ⟨some 166, .move (.tmp 168), none⟩,
    ⟨some 169, .extract (.tmp 166) 0, none⟩,
    ⟨some 170, .extract (.tmp 166) 1, none⟩,
    ⟨some 21, .assign (.tmp 169), none⟩,
    ⟨some 8, .assign (.tmp 170), none⟩]
@[reducible] def q11_22 : SCode := .region [⟨some 171, .move (.tmp 6), none⟩,
    ⟨some 172, .binOp .eql 23 (.tmp 171) (.const (.int .i64 0)) 23, none⟩,
    ⟨some 173, .move (.tmp 172), none⟩,
    ⟨some 174, .move (.tmp 8), some (173, true)⟩,
    ⟨some 175, .binOp .eql 23 (.tmp 174) (.const (.int .i64 0)) 23, some (173, true)⟩,
    ⟨some 176, .pick (.tmp 173) (.tmp 175) (.const (.bool false)), none⟩,
    ⟨some 177, .move (.tmp 176), none⟩,
    ⟨some 178, .fieldAddr 44 (.tmp 20) 0, some (177, true)⟩,
    ⟨some 179, .load 3 (.tmp 178), some (177, true)⟩,
    ⟨some 180, .fieldAddr 44 (.tmp 5) 1, some (177, true)⟩,
    ⟨some 181, .load 3 (.tmp 180), some (177, true)⟩,
    ⟨some 182, .binOp .mul 3 (.tmp 179) (.tmp 181) 3, some (177, true)⟩,
    ⟨some 183, .fieldAddr 44 (.tmp 7) 1, some (177, true)⟩,
    ⟨some 184, .load 3 (.tmp 183), some (177, true)⟩,
    ⟨some 185, .binOp .mul 3 (.tmp 182) (.tmp 184) 3, some (177, true)⟩,
    ⟨some 186, .fieldAddr 44 (.tmp 5) 0, some (177, true)⟩,
    ⟨some 187, .load 3 (.tmp 186), some (177, true)⟩,
    ⟨some 188, .fieldAddr 44 (.tmp 7) 1, some (177, true)⟩,
    ⟨some 189, .load 3 (.tmp 188), some (177, true)⟩,
    ⟨some 190, .binOp .mul 3 (.tmp 187) (.tmp 189) 3, some (177, true)⟩,
    ⟨some 191, .fieldAddr 44 (.tmp 7) 0, some (177, true)⟩,
    ⟨some 192, .load 3 (.tmp 191), some (177, true)⟩,
    ⟨some 193, .fieldAddr 44 (.tmp 5) 1, some (177, true)⟩,
    ⟨some 194, .load 3 (.tmp 193), some (177, true)⟩,
    ⟨some 195, .binOp .mul 3 (.tmp 192) (.tmp 194) 3, some (177, true)⟩,
    ⟨some 196, .binOp .add 3 (.tmp 190) (.tmp 195) 3, some (177, true)⟩,
    ⟨some 197, .fieldAddr 44 (.tmp 20) 1, some (177, true)⟩,
    ⟨some 198, .load 3 (.tmp 197), some (177, true)⟩,
    ⟨some 199, .binOp .mul 3 (.tmp 196) (.tmp 198) 3, some (177, true)⟩,
    ⟨some 200, .binOp .eql 3 (.tmp 185) (.tmp 199) 3, some (177, true)⟩,
    ⟨some 201, .pick (.tmp 177) (.tmp 200) (.const (.bool false)), none⟩,
    ⟨some 202, .move (.tmp 201), none⟩,
    ⟨some 203, .move (.tmp 21), some (202, true)⟩,
    ⟨some 204, .call { callee := .builtin .len, args := #[.tmp 203], argTypes := #[22] }, some (202, true)⟩,
    ⟨some 205, .move (.tmp 9), some (202, true)⟩,
    ⟨some 206, .call { callee := .builtin .len, args := #[.tmp 205], argTypes := #[22] }, some (202, true)⟩,
    ⟨some 207, .move (.tmp 11), some (202, true)⟩,
    ⟨some 208, .call { callee := .builtin .len, args := #[.tmp 207], argTypes := #[22] }, some (202, true)⟩,
    ⟨some 209, .binOp .add 3 (.tmp 206) (.tmp 208) 3, some (202, true)⟩,
    ⟨some 210, .binOp .eql 3 (.tmp 204) (.tmp 209) 3, some (202, true)⟩,
    ⟨some 211, .pick (.tmp 202) (.tmp 210) (.const (.bool false)), none⟩,
    ⟨some 212, .move (.tmp 211), none⟩,
    ⟨some 213, .call { callee := .value (.func 21), args := #[], argTypes := #[] }, some (212, true)⟩,
    ⟨some 214, .pick (.tmp 212) (.tmp 213) (.const (.bool false)), none⟩,
    ⟨some 4, .assign (.tmp 214), none⟩]
def s11 : SCode := (.seq q11_0 (.seq q11_1 (.seq q11_2 (.seq (.seq q11_3 (.cond (.tmp 49) (.seq q11_4 .ret) .skip)) (.seq q11_5 (.seq q11_6 (.seq (.seq q11_7 (.cond (.tmp 86) (.seq q11_8 .ret) .skip)) (.seq (.seq q11_9 (.seq q11_10 (.cond (.tmp 96) (.seq q11_11 (.seq q11_12 (.seq q11_13 (.cond (.tmp 142) (.seq q11_14 .ret) .skip)))) (.seq q11_15 (.cond (.tmp 144) (.seq q11_16 .ret) .skip))))) (.seq q11_17 (.seq (.seq q11_18 (.cond (.tmp 154) (.seq q11_19 .ret) .skip)) (.seq q11_20 (.seq q11_21 (.seq q11_22 .ret)))))))))))))
theorem s11_strip : Yh (Yj Tryd.f11) = s11 := by kernel_rfl
theorem s11_ok : Yw 215 (Yj Tryd.f11) = true := by kernel_rfl
end Go.Proofs.Tryd.Am

namespace Go.Proofs.Tryd.Am
open Go.Am Sr
set_option maxRecDepth 100000
set_option maxHeartbeats 4000000

theorem s11_callW [Tabs Tryd.prog] {args : List Value} {h : Yd} {Q : Value → Yd → Prop} (hsz : args.length ≤ 215) (hk : AWS Tryd.prog 215 s11 (Zv Tryd.prog [.tmp 4] Q) (Zp 0 args) h) : ACall Tryd.prog 11 args h Q :=
  Xq Tryd.func11 rfl (enters_of Tryd.func11 (by kernel_rfl) rfl) rfl rfl (by decide) s11_strip s11_ok hsz hk
theorem law_multiplies [BitTab prog 0] {h : Yd} {v w : Value} {xs ys : List Int} (hv : IntSl h v xs) (hl : xs.length < 9223372036854775808) (hx : ∀ x ∈ xs, -9223372036854775808 ≤ x ∧ x < 9223372036854775808)
    (hw : IntSl h w ys) (hl2 : ys.length < 9223372036854775808) (hx2 : ∀ x ∈ ys, -9223372036854775808 ≤ x ∧ x < 9223372036854775808) : ACall prog 11 [v, w] h fun r _ => r = .bool true := by
  have e00 : ((0 : Int) == 0) = true := rfl
  have e22 : ((2 : Int) == 2) = true := rfl
  have e02 : ((0 : Int) == 2) = false := rfl
  have e60 : ((6 : Int) == 0) = false := rfl
  have e66 : ((6 : Int) == 6) = true := rfl
  have n00 : ((0 : Int) != 0) = false := rfl
  have n20 : ((2 : Int) != 0) = true := rfl
  have n60 : ((6 : Int) != 0) = true := rfl
  have n66 : ((6 : Int) != 6) = false := rfl
  refine s11_callW (by simp) ?_
  simp only [s11]
  refine Yc fun N1 hN1 => ?_
  simp (maxSteps := 2000000) only [s11, ↓Za, ↓Zk, ↓Zs, ↓Ze, ↓Zj, ↓Zt, ↓Zg, ↓Zm, ↓Zf, ↓Zc, ↓Zb, ↓vdn, vup, Zo, Zh, Zi, Zn, Zl, List.map_cons, List.map_nil, cond_true, cond_false, aop, Zw, Zr, Zp, ev, sput, Zu, Zz, Yb, unK, Zd, Zx, Nat.reduceBEq, Nat.reduceAdd, Int.reduceBEq, Int.reduceBNe, Int.reduceLT, Zv, Ya, tup, tyf]
  refine hN1 [(0, v), (1, w), (4, .bool false)] _ _ ?_ (by simp (maxSteps := 2000000) only [↓Za, ↓Zk, ↓Zs, ↓Ze, ↓Zj, ↓Zt, ↓Zg, ↓Zm, ↓Zf, ↓Zc, ↓Zb, ↓vdn, vup, Zo, Zh, Zi, Zn, Zl, List.map_cons, List.map_nil, cond_true, cond_false, aop, Zw, Zr, Zp, ev, sput, Zu, Zz, Yb, unK, Zd, Zx, Nat.reduceBEq, Nat.reduceAdd, Int.reduceBEq, Int.reduceBNe, Int.reduceLT, Zv, Ya, tup, tyf])
  clear hN1
  try clear N1
  refine Yc fun N2 hN2 => ?_
  simp (maxSteps := 2000000) only [s11, ↓Za, ↓Zk, ↓Zs, ↓Ze, ↓Zj, ↓Zt, ↓Zg, ↓Zm, ↓Zf, ↓Zc, ↓Zb, ↓vdn, vup, Zo, Zh, Zi, Zn, Zl, List.map_cons, List.map_nil, cond_true, cond_false, aop, Zw, Zr, Zp, ev, sput, Zu, Zz, Yb, unK, Zd, Zx, Nat.reduceBEq, Nat.reduceAdd, Int.reduceBEq, Int.reduceBNe, Int.reduceLT, Zv, Ya, tup, tyf, Yv, List.nil_append, List.append_nil, List.toList_toArray, List.cons_append]
  refine (Vj hv hl).mono ?_
  rintro l1 _ ⟨hl1, g1, rfl⟩
  refine (weigh_call hl1 (Ws xs) (Wr hx)).mono ?_
  rintro r1 h1 ⟨hE1, hr1⟩
  obtain ⟨px, py, e1, rfl, hf1⟩ := weighR_form (weighR_take hr1 (grs_take xs) grs_same)
  simp (maxSteps := 2000000) only [s11, ↓Za, ↓Zk, ↓Zs, ↓Ze, ↓Zj, ↓Zt, ↓Zg, ↓Zm, ↓Zf, ↓Zc, ↓Zb, ↓vdn, vup, Zo, Zh, Zi, Zn, Zl, List.map_cons, List.map_nil, cond_true, cond_false, aop, Zw, Zr, Zp, ev, sput, Zu, Zz, Yb, unK, Zd, Zx, Nat.reduceBEq, Nat.reduceAdd, Int.reduceBEq, Int.reduceBNe, Int.reduceLT, Zv, Ya, tup, tyf, Wm, Xv, Vl, newF]
  have hE01 := ((Ext.app (fun _ => False) h g1).trans hE1).trans (Ext.app _ _ [Blk.cells [Zy px, Zy py] 44 false])
  have c5 := Xa h1 (Blk.cells [Zy px, Zy py] 44 false)
  generalize h1 ++ [Blk.cells [Zy px, Zy py] 44 false] = H1 at hE01 c5 ⊢
  generalize h1.length = b5 at c5 ⊢
  refine hN2 [(0, v), (1, w), (4, .bool false), (5, .pointer (some ⟨b5, 0, none⟩)), (6, .int .i64 e1)] _ _ ?_ (by simp (maxSteps := 2000000) only [↓Za, ↓Zk, ↓Zs, ↓Ze, ↓Zj, ↓Zt, ↓Zg, ↓Zm, ↓Zf, ↓Zc, ↓Zb, ↓vdn, vup, Zo, Zh, Zi, Zn, Zl, List.map_cons, List.map_nil, cond_true, cond_false, aop, Zw, Zr, Zp, ev, sput, Zu, Zz, Yb, unK, Zd, Zx, Nat.reduceBEq, Nat.reduceAdd, Int.reduceBEq, Int.reduceBNe, Int.reduceLT, Zv, Ya, tup, tyf])
  clear hN2
  try clear N2
  have hv1 := Ys hv hE01
  have hw1 := Ys hw hE01
  refine Yc fun N3 hN3 => ?_
  simp (maxSteps := 2000000) only [s11, ↓Za, ↓Zk, ↓Zs, ↓Ze, ↓Zj, ↓Zt, ↓Zg, ↓Zm, ↓Zf, ↓Zc, ↓Zb, ↓vdn, vup, Zo, Zh, Zi, Zn, Zl, List.map_cons, List.map_nil, cond_true, cond_false, aop, Zw, Zr, Zp, ev, sput, Zu, Zz, Yb, unK, Zd, Zx, Nat.reduceBEq, Nat.reduceAdd, Int.reduceBEq, Int.reduceBNe, Int.reduceLT, Zv, Ya, tup, tyf, Yv, List.nil_append, List.append_nil, List.toList_toArray, List.cons_append]
  refine (Vj hw1 hl2).mono ?_
  rintro l2 _ ⟨hl2', g2, rfl⟩
  refine (weigh_call hl2' (Ws ys) (Wr hx2)).mono ?_
  rintro r2 h2 ⟨hE2, hr2⟩
  obtain ⟨qx, qy, e2, rfl, hf2⟩ := weighR_form (weighR_take hr2 (grs_take ys) grs_same)
  simp (maxSteps := 2000000) only [s11, ↓Za, ↓Zk, ↓Zs, ↓Ze, ↓Zj, ↓Zt, ↓Zg, ↓Zm, ↓Zf, ↓Zc, ↓Zb, ↓vdn, vup, Zo, Zh, Zi, Zn, Zl, List.map_cons, List.map_nil, cond_true, cond_false, aop, Zw, Zr, Zp, ev, sput, Zu, Zz, Yb, unK, Zd, Zx, Nat.reduceBEq, Nat.reduceAdd, Int.reduceBEq, Int.reduceBNe, Int.reduceLT, Zv, Ya, tup, tyf, Wm, Xv, Vl, newF]
  have hE12 := ((Ext.app (fun _ => False) H1 g2).trans hE2).trans (Ext.app _ _ [Blk.cells [Zy qx, Zy qy] 44 false])
  have c7 := Xa h2 (Blk.cells [Zy qx, Zy qy] 44 false)
  generalize h2 ++ [Blk.cells [Zy qx, Zy qy] 44 false] = H2 at hE12 c7 ⊢
  generalize h2.length = b7 at c7 ⊢
  refine hN3 [(0, v), (1, w), (4, .bool false), (5, .pointer (some ⟨b5, 0, none⟩)), (6, .int .i64 e1), (7, .pointer (some ⟨b7, 0, none⟩)), (8, .int .i64 e2)] _ _ ?_ (by simp (maxSteps := 2000000) only [↓Za, ↓Zk, ↓Zs, ↓Ze, ↓Zj, ↓Zt, ↓Zg, ↓Zm, ↓Zf, ↓Zc, ↓Zb, ↓vdn, vup, Zo, Zh, Zi, Zn, Zl, List.map_cons, List.map_nil, cond_true, cond_false, aop, Zw, Zr, Zp, ev, sput, Zu, Zz, Yb, unK, Zd, Zx, Nat.reduceBEq, Nat.reduceAdd, Int.reduceBEq, Int.reduceBNe, Int.reduceLT, Zv, Ya, tup, tyf])
  clear hN3
  try clear N3
  have hv2 := Ys hv1 hE12
  have hw2 := Ys hw1 hE12
  have d5 := (hE12.2 _ (Yx c5) id).trans c5
  clear hr1 hr2 hl1 hl2' hE1 hE2 hE01 hE12 hv1 hw1 c5
  refine Yf fun A hA => ?_
  rcases hf1 with ⟨hgx, rfl⟩ | ⟨hgx, rfl, p, rfl, rfl, hp⟩
  · skip
    refine Yc fun N4 hN4 => ?_
    simp (maxSteps := 2000000) only [s11, ↓Za, ↓Zk, ↓Zs, ↓Ze, ↓Zj, ↓Zt, ↓Zg, ↓Zm, ↓Zf, ↓Zc, ↓Zb, ↓vdn, vup, Zo, Zh, Zi, Zn, Zl, List.map_cons, List.map_nil, cond_true, cond_false, aop, Zw, Zr, Zp, ev, sput, Zu, Zz, Yb, unK, Zd, Zx, Nat.reduceBEq, Nat.reduceAdd, Int.reduceBEq, Int.reduceBNe, Int.reduceLT, Zv, Ya, tup, tyf, n20]
    refine hN4 [(0, v), (1, w), (4, .bool false), (5, .pointer (some ⟨b5, 0, none⟩)), (6, .int .i64 2), (7, .pointer (some ⟨b7, 0, none⟩)), (8, .int .i64 e2), (49, .bool true)] _ _ ?_ (by simp (maxSteps := 2000000) only [↓Za, ↓Zk, ↓Zs, ↓Ze, ↓Zj, ↓Zt, ↓Zg, ↓Zm, ↓Zf, ↓Zc, ↓Zb, ↓vdn, vup, Zo, Zh, Zi, Zn, Zl, List.map_cons, List.map_nil, cond_true, cond_false, aop, Zw, Zr, Zp, ev, sput, Zu, Zz, Yb, unK, Zd, Zx, Nat.reduceBEq, Nat.reduceAdd, Int.reduceBEq, Int.reduceBNe, Int.reduceLT, Zv, Ya, tup, tyf])
    clear hN4
    try clear N4
    refine Xm rfl ?_
    refine Ye ?_
    simp (maxSteps := 2000000) only [s11, ↓Za, ↓Zk, ↓Zs, ↓Ze, ↓Zj, ↓Zt, ↓Zg, ↓Zm, ↓Zf, ↓Zc, ↓Zb, ↓vdn, vup, Zo, Zh, Zi, Zn, Zl, List.map_cons, List.map_nil, cond_true, cond_false, aop, Zw, Zr, Zp, ev, sput, Zu, Zz, Yb, unK, Zd, Zx, Nat.reduceBEq, Nat.reduceAdd, Int.reduceBEq, Int.reduceBNe, Int.reduceLT, Zv, Ya, tup, tyf, e22, Yv, List.nil_append, List.append_nil, List.toList_toArray, List.cons_append]
    refine awk fun g _ => ?_
    trivial
  rcases hf2 with ⟨hgy, rfl⟩ | ⟨hgy, rfl, q, rfl, rfl, hq⟩
  · skip
    refine Yc fun N5 hN5 => ?_
    simp (maxSteps := 2000000) only [s11, ↓Za, ↓Zk, ↓Zs, ↓Ze, ↓Zj, ↓Zt, ↓Zg, ↓Zm, ↓Zf, ↓Zc, ↓Zb, ↓vdn, vup, Zo, Zh, Zi, Zn, Zl, List.map_cons, List.map_nil, cond_true, cond_false, aop, Zw, Zr, Zp, ev, sput, Zu, Zz, Yb, unK, Zd, Zx, Nat.reduceBEq, Nat.reduceAdd, Int.reduceBEq, Int.reduceBNe, Int.reduceLT, Zv, Ya, tup, tyf, n00, n20]
    refine hN5 [(0, v), (1, w), (4, .bool false), (5, .pointer (some ⟨b5, 0, none⟩)), (6, .int .i64 0), (7, .pointer (some ⟨b7, 0, none⟩)), (8, .int .i64 2), (49, .bool true)] _ _ ?_ (by simp (maxSteps := 2000000) only [↓Za, ↓Zk, ↓Zs, ↓Ze, ↓Zj, ↓Zt, ↓Zg, ↓Zm, ↓Zf, ↓Zc, ↓Zb, ↓vdn, vup, Zo, Zh, Zi, Zn, Zl, List.map_cons, List.map_nil, cond_true, cond_false, aop, Zw, Zr, Zp, ev, sput, Zu, Zz, Yb, unK, Zd, Zx, Nat.reduceBEq, Nat.reduceAdd, Int.reduceBEq, Int.reduceBNe, Int.reduceLT, Zv, Ya, tup, tyf])
    clear hN5
    try clear N5
    refine Xm rfl ?_
    refine Ye ?_
    simp (maxSteps := 2000000) only [s11, ↓Za, ↓Zk, ↓Zs, ↓Ze, ↓Zj, ↓Zt, ↓Zg, ↓Zm, ↓Zf, ↓Zc, ↓Zb, ↓vdn, vup, Zo, Zh, Zi, Zn, Zl, List.map_cons, List.map_nil, cond_true, cond_false, aop, Zw, Zr, Zp, ev, sput, Zu, Zz, Yb, unK, Zd, Zx, Nat.reduceBEq, Nat.reduceAdd, Int.reduceBEq, Int.reduceBNe, Int.reduceLT, Zv, Ya, tup, tyf, e02, e22, Yv, List.nil_append, List.append_nil, List.toList_toArray, List.cons_append]
    refine awk fun g _ => ?_
    trivial
  have gx := Wf.1 hgx
  have gy := Wf.1 hgy
  have hx6 := gx.2.1
  have hy6 := gy.2.1
  have hb36 : xs.length * ys.length ≤ 6 * 6 := Nat.mul_le_mul hx6 hy6
  have sp := hp.small gx
  have sq := hq.small gy
  have pn : p.num.natAbs ≤ 4320 := hp.2.1
  have qn : q.num.natAbs ≤ 4320 := hq.2.1
  have pd : (p.den : Int).natAbs ≤ 720 := hp.2.2
  have qd : (q.den : Int).natAbs ≤ 720 := hq.2.2
  refine Yc fun N6 hN6 => ?_
  simp only [q11_3]
  refine Xi 7 fun N1 hN1 => ?_
  simp (maxSteps := 2000000) only [s11, ↓Za, ↓Zk, ↓Zs, ↓Ze, ↓Zj, ↓Zt, ↓Zg, ↓Zm, ↓Zf, ↓Zc, ↓Zb, ↓vdn, vup, Zo, Zh, Zi, Zn, Zl, List.map_cons, List.map_nil, cond_true, cond_false, aop, Zw, Zr, Zp, ev, sput, Zu, Zz, Yb, unK, Zd, Zx, Nat.reduceBEq, Nat.reduceAdd, Int.reduceBEq, Int.reduceBNe, Int.reduceLT, Zv, Ya, tup, tyf, List.take_succ_cons, List.take_zero, n00]
  refine hN1 _ _ ?_
  clear hN1 N1
  simp only [List.drop_succ_cons, List.drop_zero]
  refine Xi 2 fun N1 hN1 => ?_
  simp (maxSteps := 2000000) only [s11, ↓Za, ↓Zk, ↓Zs, ↓Ze, ↓Zj, ↓Zt, ↓Zg, ↓Zm, ↓Zf, ↓Zc, ↓Zb, ↓vdn, vup, Zo, Zh, Zi, Zn, Zl, List.map_cons, List.map_nil, cond_true, cond_false, aop, Zw, Zr, Zp, ev, sput, Zu, Zz, Yb, unK, Zd, Zx, Nat.reduceBEq, Nat.reduceAdd, Int.reduceBEq, Int.reduceBNe, Int.reduceLT, Zv, Ya, tup, tyf, Yv, List.nil_append, List.append_nil, List.toList_toArray, List.cons_append, List.take_succ_cons, List.take_zero]
  refine (rgraph_call hv2 hl hx).mono ?_
  rintro _ H2 ⟨rfl, rfl⟩
  refine hN1 _ _ ?_
  clear hN1 N1
  simp only [List.drop_succ_cons, List.drop_zero]
  refine Xi 3 fun N1 hN1 => ?_
  simp (maxSteps := 2000000) only [s11, ↓Za, ↓Zk, ↓Zs, ↓Ze, ↓Zj, ↓Zt, ↓Zg, ↓Zm, ↓Zf, ↓Zc, ↓Zb, ↓vdn, vup, Zo, Zh, Zi, Zn, Zl, List.map_cons, List.map_nil, cond_true, cond_false, aop, Zw, Zr, Zp, ev, sput, Zu, Zz, Yb, unK, Zd, Zx, Nat.reduceBEq, Nat.reduceAdd, Int.reduceBEq, Int.reduceBNe, Int.reduceLT, Zv, Ya, tup, tyf, List.take_succ_cons, List.take_zero, hgx, Bool.not_true]
  refine hN1 _ _ ?_
  clear hN1 N1
  simp only [List.drop_succ_cons, List.drop_zero]
  refine Xi 2 fun N1 hN1 => ?_
  simp (maxSteps := 2000000) only [s11, ↓Za, ↓Zk, ↓Zs, ↓Ze, ↓Zj, ↓Zt, ↓Zg, ↓Zm, ↓Zf, ↓Zc, ↓Zb, ↓vdn, vup, Zo, Zh, Zi, Zn, Zl, List.map_cons, List.map_nil, cond_true, cond_false, aop, Zw, Zr, Zp, ev, sput, Zu, Zz, Yb, unK, Zd, Zx, Nat.reduceBEq, Nat.reduceAdd, Int.reduceBEq, Int.reduceBNe, Int.reduceLT, Zv, Ya, tup, tyf, Yv, List.nil_append, List.append_nil, List.toList_toArray, List.cons_append, List.take_succ_cons, List.take_zero]
  refine (rgraph_call hw2 hl2 hx2).mono ?_
  rintro _ H2 ⟨rfl, rfl⟩
  refine hN1 _ _ ?_
  clear hN1 N1
  simp only [List.drop_succ_cons, List.drop_zero]
  simp (maxSteps := 2000000) only [s11, ↓Za, ↓Zk, ↓Zs, ↓Ze, ↓Zj, ↓Zt, ↓Zg, ↓Zm, ↓Zf, ↓Zc, ↓Zb, ↓vdn, vup, Zo, Zh, Zi, Zn, Zl, List.map_cons, List.map_nil, cond_true, cond_false, aop, Zw, Zr, Zp, ev, sput, Zu, Zz, Yb, unK, Zd, Zx, Nat.reduceBEq, Nat.reduceAdd, Int.reduceBEq, Int.reduceBNe, Int.reduceLT, Zv, Ya, tup, tyf, hgy, Bool.not_true]
  refine hN6 [(0, v), (1, w), (4, .bool false), (5, .pointer (some ⟨b5, 0, none⟩)), (6, .int .i64 0), (7, .pointer (some ⟨b7, 0, none⟩)), (8, .int .i64 0), (49, .bool false)] _ _ ?_ (by simp (maxSteps := 2000000) only [↓Za, ↓Zk, ↓Zs, ↓Ze, ↓Zj, ↓Zt, ↓Zg, ↓Zm, ↓Zf, ↓Zc, ↓Zb, ↓vdn, vup, Zo, Zh, Zi, Zn, Zl, List.map_cons, List.map_nil, cond_true, cond_false, aop, Zw, Zr, Zp, ev, sput, Zu, Zz, Yb, unK, Zd, Zx, Nat.reduceBEq, Nat.reduceAdd, Int.reduceBEq, Int.reduceBNe, Int.reduceLT, Zv, Ya, tup, tyf])
  clear hN6
  try clear N6
  refine Yy rfl ?_
  refine Ye ?_
  simp (maxSteps := 2000000) only [s11, ↓Za, ↓Zk, ↓Zs, ↓Ze, ↓Zj, ↓Zt, ↓Zg, ↓Zm, ↓Zf, ↓Zc, ↓Zb, ↓vdn, vup, Zo, Zh, Zi, Zn, Zl, List.map_cons, List.map_nil, cond_true, cond_false, aop, Zw, Zr, Zp, ev, sput, Zu, Zz, Yb, unK, Zd, Zx, Nat.reduceBEq, Nat.reduceAdd, Int.reduceBEq, Int.reduceBNe, Int.reduceLT, Zv, Ya, tup, tyf]
  refine hA [(0, v), (1, w), (4, .bool false), (5, .pointer (some ⟨b5, 0, none⟩)), (6, .int .i64 0), (7, .pointer (some ⟨b7, 0, none⟩)), (8, .int .i64 0)] _ _ ?_ (by simp (maxSteps := 2000000) only [↓Za, ↓Zk, ↓Zs, ↓Ze, ↓Zj, ↓Zt, ↓Zg, ↓Zm, ↓Zf, ↓Zc, ↓Zb, ↓vdn, vup, Zo, Zh, Zi, Zn, Zl, List.map_cons, List.map_nil, cond_true, cond_false, aop, Zw, Zr, Zp, ev, sput, Zu, Zz, Yb, unK, Zd, Zx, Nat.reduceBEq, Nat.reduceAdd, Int.reduceBEq, Int.reduceBNe, Int.reduceLT, Zv, Ya, tup, tyf])
  clear hA
  try clear A
  refine Yc fun N7 hN7 => ?_
  simp (maxSteps := 2000000) only [s11, ↓Za, ↓Zk, ↓Zs, ↓Ze, ↓Zj, ↓Zt, ↓Zg, ↓Zm, ↓Zf, ↓Zc, ↓Zb, ↓vdn, vup, Zo, Zh, Zi, Zn, Zl, List.map_cons, List.map_nil, cond_true, cond_false, aop, Zw, Zr, Zp, ev, sput, Zu, Zz, Yb, unK, Zd, Zx, Nat.reduceBEq, Nat.reduceAdd, Int.reduceBEq, Int.reduceBNe, Int.reduceLT, Zv, Ya, tup, tyf, Yv, List.nil_append, List.append_nil, List.toList_toArray, List.cons_append]
  refine (Vj hv2 hl).mono ?_
  rintro l3 _ ⟨hl3, g3, rfl⟩
  refine (code_call (k := 1) hl3 (Ws xs) (Wr hx)).mono ?_
  rintro r3 h3 ⟨hE3, hr3⟩
  obtain ⟨w1, rfl, hc1⟩ := code1_ok hgx (codeR_take hr3)
  simp (maxSteps := 2000000) only [s11, ↓Za, ↓Zk, ↓Zs, ↓Ze, ↓Zj, ↓Zt, ↓Zg, ↓Zm, ↓Zf, ↓Zc, ↓Zb, ↓vdn, vup, Zo, Zh, Zi, Zn, Zl, List.map_cons, List.map_nil, cond_true, cond_false, aop, Zw, Zr, Zp, ev, sput, Zu, Zz, Yb, unK, Zd, Zx, Nat.reduceBEq, Nat.reduceAdd, Int.reduceBEq, Int.reduceBNe, Int.reduceLT, Zv, Ya, tup, tyf]
  refine hN7 [(0, v), (1, w), (4, .bool false), (5, .pointer (some ⟨b5, 0, none⟩)), (6, .int .i64 0), (7, .pointer (some ⟨b7, 0, none⟩)), (8, .int .i64 0), (9, w1), (10, .int .i64 0)] _ _ ?_ (by simp (maxSteps := 2000000) only [↓Za, ↓Zk, ↓Zs, ↓Ze, ↓Zj, ↓Zt, ↓Zg, ↓Zm, ↓Zf, ↓Zc, ↓Zb, ↓vdn, vup, Zo, Zh, Zi, Zn, Zl, List.map_cons, List.map_nil, cond_true, cond_false, aop, Zw, Zr, Zp, ev, sput, Zu, Zz, Yb, unK, Zd, Zx, Nat.reduceBEq, Nat.reduceAdd, Int.reduceBEq, Int.reduceBNe, Int.reduceLT, Zv, Ya, tup, tyf])
  clear hN7
  try clear N7
  have hE23 := (Ext.app (fun _ => False) H2 g3).trans hE3
  have hv3 := Ys hv2 hE23
  have hw3 := Ys hw2 hE23
  refine Yc fun N8 hN8 => ?_
  simp (maxSteps := 2000000) only [s11, ↓Za, ↓Zk, ↓Zs, ↓Ze, ↓Zj, ↓Zt, ↓Zg, ↓Zm, ↓Zf, ↓Zc, ↓Zb, ↓vdn, vup, Zo, Zh, Zi, Zn, Zl, List.map_cons, List.map_nil, cond_true, cond_false, aop, Zw, Zr, Zp, ev, sput, Zu, Zz, Yb, unK, Zd, Zx, Nat.reduceBEq, Nat.reduceAdd, Int.reduceBEq, Int.reduceBNe, Int.reduceLT, Zv, Ya, tup, tyf, Yv, List.nil_append, List.append_nil, List.toList_toArray, List.cons_append]
  refine (Vj hw3 hl2).mono ?_
  rintro l4 _ ⟨hl4, g4, rfl⟩
  refine (code_call (k := 1) hl4 (Ws ys) (Wr hx2)).mono ?_
  rintro r4 h4 ⟨hE4, hr4⟩
  obtain ⟨w2, rfl, hc2⟩ := code1_ok hgy (codeR_take hr4)
  simp (maxSteps := 2000000) only [s11, ↓Za, ↓Zk, ↓Zs, ↓Ze, ↓Zj, ↓Zt, ↓Zg, ↓Zm, ↓Zf, ↓Zc, ↓Zb, ↓vdn, vup, Zo, Zh, Zi, Zn, Zl, List.map_cons, List.map_nil, cond_true, cond_false, aop, Zw, Zr, Zp, ev, sput, Zu, Zz, Yb, unK, Zd, Zx, Nat.reduceBEq, Nat.reduceAdd, Int.reduceBEq, Int.reduceBNe, Int.reduceLT, Zv, Ya, tup, tyf]
  refine hN8 [(0, v), (1, w), (4, .bool false), (5, .pointer (some ⟨b5, 0, none⟩)), (6, .int .i64 0), (7, .pointer (some ⟨b7, 0, none⟩)), (8, .int .i64 0), (9, w1), (10, .int .i64 0), (11, w2), (12, .int .i64 0)] _ _ ?_ (by simp (maxSteps := 2000000) only [↓Za, ↓Zk, ↓Zs, ↓Ze, ↓Zj, ↓Zt, ↓Zg, ↓Zm, ↓Zf, ↓Zc, ↓Zb, ↓vdn, vup, Zo, Zh, Zi, Zn, Zl, List.map_cons, List.map_nil, cond_true, cond_false, aop, Zw, Zr, Zp, ev, sput, Zu, Zz, Yb, unK, Zd, Zx, Nat.reduceBEq, Nat.reduceAdd, Int.reduceBEq, Int.reduceBNe, Int.reduceLT, Zv, Ya, tup, tyf])
  clear hN8
  try clear N8
  have hE34 := (Ext.app (fun _ => False) h3 g4).trans hE4
  have hE24 := hE23.trans hE34
  have hv4 := Ys hv3 hE34
  have hw4 := Ys hw3 hE34
  have d5 := (hE24.2 _ (Yx d5) id).trans d5
  have d7 := (hE24.2 _ (Yx c7) id).trans c7
  have lc1 := hc1.int.len
  have lc2 := hc2.int.len
  obtain ⟨X, hX⟩ : ∃ X, X = (codeL (Xr xs 1)).length := ⟨_, rfl⟩
  obtain ⟨Y, hY⟩ : ∃ Y, Y = (codeL (Xr ys 1)).length := ⟨_, rfl⟩
  have hX6 : X ≤ 64 := by
    have := A_le (Xr xs 1) (2 ^ (Xr xs 1).length - 1)
    rw [hX, codeL_len (nearL_gr gx (k := 1) (by rw [wn_one]; omega))]; exact this
  have hY6 : Y ≤ 64 := by
    have := A_le (Xr ys 1) (2 ^ (Xr ys 1).length - 1)
    rw [hY, codeL_len (nearL_gr gy (k := 1) (by rw [wn_one]; omega))]; exact this
  rw [List.length_map, ← hX] at lc1
  rw [List.length_map, ← hY] at lc2
  clear hr3 hr4 hl3 hl4 hE3 hE4 hE23 hE34 hE24 hv3 hw3
  have f1 := small_call (h := h4) sp.1 sp.2 hp.2.2
  have f2 := small_call (h := h4) sq.1 sq.2 hq.2.2
  simp only [qV, frV] at f1 f2
  refine Yf fun A hA => ?_
  refine Yc fun N9 hN9 => ?_
  simp only [q11_7]
  refine Xi 7 fun N1 hN1 => ?_
  simp (maxSteps := 2000000) only [s11, ↓Za, ↓Zk, ↓Zs, ↓Ze, ↓Zj, ↓Zt, ↓Zg, ↓Zm, ↓Zf, ↓Zc, ↓Zb, ↓vdn, vup, Zo, Zh, Zi, Zn, Zl, List.map_cons, List.map_nil, cond_true, cond_false, aop, Zw, Zr, Zp, ev, sput, Zu, Zz, Yb, unK, Zd, Zx, Nat.reduceBEq, Nat.reduceAdd, Int.reduceBEq, Int.reduceBNe, Int.reduceLT, Zv, Ya, tup, tyf, List.take_succ_cons, List.take_zero, n00]
  refine hN1 _ _ ?_
  clear hN1 N1
  simp only [List.drop_succ_cons, List.drop_zero]
  refine Xi 2 fun N1 hN1 => ?_
  simp (maxSteps := 2000000) only [s11, ↓Za, ↓Zk, ↓Zs, ↓Ze, ↓Zj, ↓Zt, ↓Zg, ↓Zm, ↓Zf, ↓Zc, ↓Zb, ↓vdn, vup, Zo, Zh, Zi, Zn, Zl, List.map_cons, List.map_nil, cond_true, cond_false, aop, Zw, Zr, Zp, ev, sput, Zu, Zz, Yb, unK, Zd, Zx, Nat.reduceBEq, Nat.reduceAdd, Int.reduceBEq, Int.reduceBNe, Int.reduceLT, Zv, Ya, tup, tyf, Yv, List.nil_append, List.append_nil, List.toList_toArray, List.cons_append, List.take_succ_cons, List.take_zero, loadF d5]
  refine (f1).mono ?_
  rintro _ h4 ⟨rfl, rfl⟩
  refine hN1 _ _ ?_
  clear hN1 N1
  simp only [List.drop_succ_cons, List.drop_zero]
  refine Xi 3 fun N1 hN1 => ?_
  simp (maxSteps := 2000000) only [s11, ↓Za, ↓Zk, ↓Zs, ↓Ze, ↓Zj, ↓Zt, ↓Zg, ↓Zm, ↓Zf, ↓Zc, ↓Zb, ↓vdn, vup, Zo, Zh, Zi, Zn, Zl, List.map_cons, List.map_nil, cond_true, cond_false, aop, Zw, Zr, Zp, ev, sput, Zu, Zz, Yb, unK, Zd, Zx, Nat.reduceBEq, Nat.reduceAdd, Int.reduceBEq, Int.reduceBNe, Int.reduceLT, Zv, Ya, tup, tyf, List.take_succ_cons, List.take_zero, Bool.not_true]
  refine hN1 _ _ ?_
  clear hN1 N1
  simp only [List.drop_succ_cons, List.drop_zero]
  refine Xi 2 fun N1 hN1 => ?_
  simp (maxSteps := 2000000) only [s11, ↓Za, ↓Zk, ↓Zs, ↓Ze, ↓Zj, ↓Zt, ↓Zg, ↓Zm, ↓Zf, ↓Zc, ↓Zb, ↓vdn, vup, Zo, Zh, Zi, Zn, Zl, List.map_cons, List.map_nil, cond_true, cond_false, aop, Zw, Zr, Zp, ev, sput, Zu, Zz, Yb, unK, Zd, Zx, Nat.reduceBEq, Nat.reduceAdd, Int.reduceBEq, Int.reduceBNe, Int.reduceLT, Zv, Ya, tup, tyf, Yv, List.nil_append, List.append_nil, List.toList_toArray, List.cons_append, List.take_succ_cons, List.take_zero, loadF d7]
  refine (f2).mono ?_
  rintro _ h4 ⟨rfl, rfl⟩
  refine hN1 _ _ ?_
  clear hN1 N1
  simp only [List.drop_succ_cons, List.drop_zero]
  simp (maxSteps := 2000000) only [s11, ↓Za, ↓Zk, ↓Zs, ↓Ze, ↓Zj, ↓Zt, ↓Zg, ↓Zm, ↓Zf, ↓Zc, ↓Zb, ↓vdn, vup, Zo, Zh, Zi, Zn, Zl, List.map_cons, List.map_nil, cond_true, cond_false, aop, Zw, Zr, Zp, ev, sput, Zu, Zz, Yb, unK, Zd, Zx, Nat.reduceBEq, Nat.reduceAdd, Int.reduceBEq, Int.reduceBNe, Int.reduceLT, Zv, Ya, tup, tyf, Bool.not_true]
  refine hN9 [(0, v), (1, w), (4, .bool false), (5, .pointer (some ⟨b5, 0, none⟩)), (6, .int .i64 0), (7, .pointer (some ⟨b7, 0, none⟩)), (8, .int .i64 0), (9, w1), (10, .int .i64 0), (11, w2), (12, .int .i64 0), (86, .bool false)] _ _ ?_ (by simp (maxSteps := 2000000) only [↓Za, ↓Zk, ↓Zs, ↓Ze, ↓Zj, ↓Zt, ↓Zg, ↓Zm, ↓Zf, ↓Zc, ↓Zb, ↓vdn, vup, Zo, Zh, Zi, Zn, Zl, List.map_cons, List.map_nil, cond_true, cond_false, aop, Zw, Zr, Zp, ev, sput, Zu, Zz, Yb, unK, Zd, Zx, Nat.reduceBEq, Nat.reduceAdd, Int.reduceBEq, Int.reduceBNe, Int.reduceLT, Zv, Ya, tup, tyf])
  clear hN9
  try clear N9
  refine Yy rfl ?_
  refine Ye ?_
  simp (maxSteps := 2000000) only [s11, ↓Za, ↓Zk, ↓Zs, ↓Ze, ↓Zj, ↓Zt, ↓Zg, ↓Zm, ↓Zf, ↓Zc, ↓Zb, ↓vdn, vup, Zo, Zh, Zi, Zn, Zl, List.map_cons, List.map_nil, cond_true, cond_false, aop, Zw, Zr, Zp, ev, sput, Zu, Zz, Yb, unK, Zd, Zx, Nat.reduceBEq, Nat.reduceAdd, Int.reduceBEq, Int.reduceBNe, Int.reduceLT, Zv, Ya, tup, tyf]
  refine hA [(0, v), (1, w), (4, .bool false), (5, .pointer (some ⟨b5, 0, none⟩)), (6, .int .i64 0), (7, .pointer (some ⟨b7, 0, none⟩)), (8, .int .i64 0), (9, w1), (10, .int .i64 0), (11, w2), (12, .int .i64 0)] _ _ ?_ (by simp (maxSteps := 2000000) only [↓Za, ↓Zk, ↓Zs, ↓Ze, ↓Zj, ↓Zt, ↓Zg, ↓Zm, ↓Zf, ↓Zc, ↓Zb, ↓vdn, vup, Zo, Zh, Zi, Zn, Zl, List.map_cons, List.map_nil, cond_true, cond_false, aop, Zw, Zr, Zp, ev, sput, Zu, Zz, Yb, unK, Zd, Zx, Nat.reduceBEq, Nat.reduceAdd, Int.reduceBEq, Int.reduceBNe, Int.reduceLT, Zv, Ya, tup, tyf])
  clear hA
  try clear A
  refine Yf fun M hM => ?_
  have go : ∀ H, Ext (fun _ => False) h4 H → ∀ e, ELe e [(0, v), (1, w), (4, .bool false), (5, .pointer (some ⟨b5, 0, none⟩)), (7, .pointer (some ⟨b7, 0, none⟩)), (9, w1), (11, w2)] → M e H := by
    intro H hEH e he
    refine hM [(0, v), (1, w), (4, .bool false), (5, .pointer (some ⟨b5, 0, none⟩)), (7, .pointer (some ⟨b7, 0, none⟩)), (9, w1), (11, w2)] _ _ ?_ he
    have hv5 := Ys hv4 hEH
    have hw5 := Ys hw4 hEH
    have k5 := (hEH.2 _ (Yx d5) id).trans d5
    have k7 := (hEH.2 _ (Yx d7) id).trans d7
    refine Yc fun N10 hN10 => ?_
    simp (maxSteps := 2000000) only [s11, ↓Za, ↓Zk, ↓Zs, ↓Ze, ↓Zj, ↓Zt, ↓Zg, ↓Zm, ↓Zf, ↓Zc, ↓Zb, ↓vdn, vup, Zo, Zh, Zi, Zn, Zl, List.map_cons, List.map_nil, cond_true, cond_false, aop, Zw, Zr, Zp, ev, sput, Zu, Zz, Yb, unK, Zd, Zx, Nat.reduceBEq, Nat.reduceAdd, Int.reduceBEq, Int.reduceBNe, Int.reduceLT, Zv, Ya, tup, tyf, Yv, List.nil_append, List.append_nil, List.toList_toArray, List.cons_append]
    refine (Vj hv5 hl).mono ?_
    rintro l5 _ ⟨hl5, g5, rfl⟩
    refine (Vj (hw5.grow g5) hl2).mono ?_
    rintro l6 _ ⟨hl6, g6, rfl⟩
    refine (sum_call (hl5.grow g6) (Ws xs) (Wr hx) hl6 (Ws ys) (Wr hx2)).mono ?_
    rintro r5 h5 ⟨hE5, hr5⟩
    obtain ⟨u2, e2, rfl, hcs⟩ := sumR_form (sumR_take hr5)
    simp (maxSteps := 2000000) only [s11, ↓Za, ↓Zk, ↓Zs, ↓Ze, ↓Zj, ↓Zt, ↓Zg, ↓Zm, ↓Zf, ↓Zc, ↓Zb, ↓vdn, vup, Zo, Zh, Zi, Zn, Zl, List.map_cons, List.map_nil, cond_true, cond_false, aop, Zw, Zr, Zp, ev, sput, Zu, Zz, Yb, unK, Zd, Zx, Nat.reduceBEq, Nat.reduceAdd, Int.reduceBEq, Int.reduceBNe, Int.reduceLT, Zv, Ya, tup, tyf]
    refine hN10 [(0, v), (1, w), (4, .bool false), (5, .pointer (some ⟨b5, 0, none⟩)), (6, .int .i64 e2), (7, .pointer (some ⟨b7, 0, none⟩)), (9, w1), (11, w2), (19, u2)] _ _ ?_ (by simp (maxSteps := 2000000) only [↓Za, ↓Zk, ↓Zs, ↓Ze, ↓Zj, ↓Zt, ↓Zg, ↓Zm, ↓Zf, ↓Zc, ↓Zb, ↓vdn, vup, Zo, Zh, Zi, Zn, Zl, List.map_cons, List.map_nil, cond_true, cond_false, aop, Zw, Zr, Zp, ev, sput, Zu, Zz, Yb, unK, Zd, Zx, Nat.reduceBEq, Nat.reduceAdd, Int.reduceBEq, Int.reduceBNe, Int.reduceLT, Zv, Ya, tup, tyf])
    clear hN10
    try clear N10
    have hE45 := ((Ext.app (fun _ => False) H g5).trans (Ext.app _ _ g6)).trans hE5
    have k5 := (hE45.2 _ (Yx k5) id).trans k5
    have k7 := (hE45.2 _ (Yx k7) id).trans k7
    clear hr5 hl5 hl6 hE5 hv5 hw5 hE45
    refine Yf fun A hA => ?_
    by_cases hs2 : xs.length + ys.length ≤ 6
    · obtain ⟨hu2, rfl⟩ : IntSl h5 u2 (sumL xs ys) ∧ e2 = 0 := by
        rcases hcs with h | h | h
        · exact absurd ⟨hgx, hgy⟩ h.1
        · exact absurd hs2 h.2.1
        · exact h.2.2
      refine Yc fun N11 hN11 => ?_
      simp (maxSteps := 2000000) only [s11, ↓Za, ↓Zk, ↓Zs, ↓Ze, ↓Zj, ↓Zt, ↓Zg, ↓Zm, ↓Zf, ↓Zc, ↓Zb, ↓vdn, vup, Zo, Zh, Zi, Zn, Zl, List.map_cons, List.map_nil, cond_true, cond_false, aop, Zw, Zr, Zp, ev, sput, Zu, Zz, Yb, unK, Zd, Zx, Nat.reduceBEq, Nat.reduceAdd, Int.reduceBEq, Int.reduceBNe, Int.reduceLT, Zv, Ya, tup, tyf, n00]
      refine hN11 [(0, v), (1, w), (4, .bool false), (5, .pointer (some ⟨b5, 0, none⟩)), (6, .int .i64 0), (7, .pointer (some ⟨b7, 0, none⟩)), (9, w1), (11, w2), (19, u2), (154, .bool false)] _ _ ?_ (by simp (maxSteps := 2000000) only [↓Za, ↓Zk, ↓Zs, ↓Ze, ↓Zj, ↓Zt, ↓Zg, ↓Zm, ↓Zf, ↓Zc, ↓Zb, ↓vdn, vup, Zo, Zh, Zi, Zn, Zl, List.map_cons, List.map_nil, cond_true, cond_false, aop, Zw, Zr, Zp, ev, sput, Zu, Zz, Yb, unK, Zd, Zx, Nat.reduceBEq, Nat.reduceAdd, Int.reduceBEq, Int.reduceBNe, Int.reduceLT, Zv, Ya, tup, tyf])
      clear hN11
      try clear N11
      refine Yy rfl ?_
      refine Ye ?_
      simp (maxSteps := 2000000) only [s11, ↓Za, ↓Zk, ↓Zs, ↓Ze, ↓Zj, ↓Zt, ↓Zg, ↓Zm, ↓Zf, ↓Zc, ↓Zb, ↓vdn, vup, Zo, Zh, Zi, Zn, Zl, List.map_cons, List.map_nil, cond_true, cond_false, aop, Zw, Zr, Zp, ev, sput, Zu, Zz, Yb, unK, Zd, Zx, Nat.reduceBEq, Nat.reduceAdd, Int.reduceBEq, Int.reduceBNe, Int.reduceLT, Zv, Ya, tup, tyf]
      refine hA [(0, v), (1, w), (4, .bool false), (5, .pointer (some ⟨b5, 0, none⟩)), (6, .int .i64 0), (7, .pointer (some ⟨b7, 0, none⟩)), (9, w1), (11, w2), (19, u2)] _ _ ?_ (by simp (maxSteps := 2000000) only [↓Za, ↓Zk, ↓Zs, ↓Ze, ↓Zj, ↓Zt, ↓Zg, ↓Zm, ↓Zf, ↓Zc, ↓Zb, ↓vdn, vup, Zo, Zh, Zi, Zn, Zl, List.map_cons, List.map_nil, cond_true, cond_false, aop, Zw, Zr, Zp, ev, sput, Zu, Zz, Yb, unK, Zd, Zx, Nat.reduceBEq, Nat.reduceAdd, Int.reduceBEq, Int.reduceBNe, Int.reduceLT, Zv, Ya, tup, tyf])
      clear hA
      try clear A
      have gs := sumL_gs gx gy hs2
      have hgs := Wf.2 gs
      have hsl : (sumL xs ys).length = xs.length + ys.length := sumL_len xs ys
      refine Yc fun N12 hN12 => ?_
      simp (maxSteps := 2000000) only [s11, ↓Za, ↓Zk, ↓Zs, ↓Ze, ↓Zj, ↓Zt, ↓Zg, ↓Zm, ↓Zf, ↓Zc, ↓Zb, ↓vdn, vup, Zo, Zh, Zi, Zn, Zl, List.map_cons, List.map_nil, cond_true, cond_false, aop, Zw, Zr, Zp, ev, sput, Zu, Zz, Yb, unK, Zd, Zx, Nat.reduceBEq, Nat.reduceAdd, Int.reduceBEq, Int.reduceBNe, Int.reduceLT, Zv, Ya, tup, tyf, Yv, List.nil_append, List.append_nil, List.toList_toArray, List.cons_append]
      refine (clone_call hu2 (by omega)).mono ?_
      rintro l7 _ ⟨hl7, g7, rfl⟩
      refine (weigh_call hl7 (by omega) (gs_rng gs)).mono ?_
      rintro r6 h6 ⟨hE6, hr6⟩
      rw [weighR, if_pos hgs] at hr6
      obtain ⟨r, rfl, hr⟩ := hr6
      simp (maxSteps := 2000000) only [s11, ↓Za, ↓Zk, ↓Zs, ↓Ze, ↓Zj, ↓Zt, ↓Zg, ↓Zm, ↓Zf, ↓Zc, ↓Zb, ↓vdn, vup, Zo, Zh, Zi, Zn, Zl, List.map_cons, List.map_nil, cond_true, cond_false, aop, Zw, Zr, Zp, ev, sput, Zu, Zz, Yb, unK, Zd, Zx, Nat.reduceBEq, Nat.reduceAdd, Int.reduceBEq, Int.reduceBNe, Int.reduceLT, Zv, Ya, tup, tyf, qV, frV, Wm, Xv, Vl, newF]
      have hE56 := ((Ext.app (fun _ => False) h5 g7).trans hE6).trans (Ext.app _ _ [Blk.cells [Zy r.num, Zy r.den] 44 false])
      have k20 := Xa h6 (Blk.cells [Zy r.num, Zy r.den] 44 false)
      generalize h6 ++ [Blk.cells [Zy r.num, Zy r.den] 44 false] = H6 at hE56 k20 ⊢
      generalize h6.length = b20 at k20 ⊢
      refine hN12 [(0, v), (1, w), (4, .bool false), (5, .pointer (some ⟨b5, 0, none⟩)), (6, .int .i64 0), (7, .pointer (some ⟨b7, 0, none⟩)), (9, w1), (11, w2), (19, u2), (20, .pointer (some ⟨b20, 0, none⟩))] _ _ ?_ (by simp (maxSteps := 2000000) only [↓Za, ↓Zk, ↓Zs, ↓Ze, ↓Zj, ↓Zt, ↓Zg, ↓Zm, ↓Zf, ↓Zc, ↓Zb, ↓vdn, vup, Zo, Zh, Zi, Zn, Zl, List.map_cons, List.map_nil, cond_true, cond_false, aop, Zw, Zr, Zp, ev, sput, Zu, Zz, Yb, unK, Zd, Zx, Nat.reduceBEq, Nat.reduceAdd, Int.reduceBEq, Int.reduceBNe, Int.reduceLT, Zv, Ya, tup, tyf])
      clear hN12
      try clear N12
      have hu3 := Ys hu2 hE56
      refine Yc fun N13 hN13 => ?_
      simp (maxSteps := 2000000) only [s11, ↓Za, ↓Zk, ↓Zs, ↓Ze, ↓Zj, ↓Zt, ↓Zg, ↓Zm, ↓Zf, ↓Zc, ↓Zb, ↓vdn, vup, Zo, Zh, Zi, Zn, Zl, List.map_cons, List.map_nil, cond_true, cond_false, aop, Zw, Zr, Zp, ev, sput, Zu, Zz, Yb, unK, Zd, Zx, Nat.reduceBEq, Nat.reduceAdd, Int.reduceBEq, Int.reduceBNe, Int.reduceLT, Zv, Ya, tup, tyf, Yv, List.nil_append, List.append_nil, List.toList_toArray, List.cons_append]
      refine (code_call (k := 1) hu3 (by omega) (gs_rng gs)).mono ?_
      rintro r7 h7 ⟨hE7, hr7⟩
      obtain ⟨w3, rfl, hc3⟩ := code1_ok hgs hr7
      simp (maxSteps := 2000000) only [s11, ↓Za, ↓Zk, ↓Zs, ↓Ze, ↓Zj, ↓Zt, ↓Zg, ↓Zm, ↓Zf, ↓Zc, ↓Zb, ↓vdn, vup, Zo, Zh, Zi, Zn, Zl, List.map_cons, List.map_nil, cond_true, cond_false, aop, Zw, Zr, Zp, ev, sput, Zu, Zz, Yb, unK, Zd, Zx, Nat.reduceBEq, Nat.reduceAdd, Int.reduceBEq, Int.reduceBNe, Int.reduceLT, Zv, Ya, tup, tyf]
      refine hN13 [(0, v), (1, w), (4, .bool false), (5, .pointer (some ⟨b5, 0, none⟩)), (6, .int .i64 0), (7, .pointer (some ⟨b7, 0, none⟩)), (8, .int .i64 0), (9, w1), (11, w2), (19, u2), (20, .pointer (some ⟨b20, 0, none⟩)), (21, w3)] _ _ ?_ (by simp (maxSteps := 2000000) only [↓Za, ↓Zk, ↓Zs, ↓Ze, ↓Zj, ↓Zt, ↓Zg, ↓Zm, ↓Zf, ↓Zc, ↓Zb, ↓vdn, vup, Zo, Zh, Zi, Zn, Zl, List.map_cons, List.map_nil, cond_true, cond_false, aop, Zw, Zr, Zp, ev, sput, Zu, Zz, Yb, unK, Zd, Zx, Nat.reduceBEq, Nat.reduceAdd, Int.reduceBEq, Int.reduceBNe, Int.reduceLT, Zv, Ya, tup, tyf])
      clear hN13
      try clear N13
      have hE57 := hE56.trans hE7
      have k5 := (hE57.2 _ (Yx k5) id).trans k5
      have k7 := (hE57.2 _ (Yx k7) id).trans k7
      have k20 := (hE7.2 _ (Yx k20) id).trans k20
      have lc3 := hc3.int.len
      have hZ := sum_most gx gy hs2
      rw [← hX, ← hY] at hZ
      rw [List.length_map, hZ] at lc3
      have hadd : addV .i64 (X : Int) (Y : Int) = ((X + Y : Nat) : Int) := by rw [Vm (by omega) (by omega)]; omega
      have rn : r.num.natAbs ≤ 4320 := hr.2.1
      have rd : (r.den : Int).natAbs ≤ 720 := hr.2.2
      have m1 := mulB rn pd (by decide)
      have m2 := mulB m1.2 qd (by decide)
      have m3 := mulB pn qd (by decide)
      have m4 := mulB qn pd (by decide)
      have m5 : addV .i64 (p.num * q.den) (q.num * p.den) = p.num * q.den + q.num * p.den := Vm (by have := m3.2; have := m4.2; omega) (by have := m3.2; have := m4.2; omega)
      have m5b : (p.num * q.den + q.num * p.den).natAbs ≤ 6220800 := by have := m3.2; have := m4.2; omega
      have m6 := mulB m5b rd (by decide)
      have heq : (r.num * p.den * q.den == (p.num * q.den + q.num * p.den) * r.den) = true := by
        rw [beq_iff_eq]; exact add_ints (sum_weigh gx gy hs2 hp hq hr)
      have hee : (((X + Y : Nat) : Int) == ((X + Y : Nat) : Int)) = true := beq_self_eq_true _
      refine Yc fun N14 hN14 => ?_
      simp only [q11_22]
      refine Xi 7 fun N1 hN1 => ?_
      simp (maxSteps := 2000000) only [s11, ↓Za, ↓Zk, ↓Zs, ↓Ze, ↓Zj, ↓Zt, ↓Zg, ↓Zm, ↓Zf, ↓Zc, ↓Zb, ↓vdn, vup, Zo, Zh, Zi, Zn, Zl, List.map_cons, List.map_nil, cond_true, cond_false, aop, Zw, Zr, Zp, ev, sput, Zu, Zz, Yb, unK, Zd, Zx, Nat.reduceBEq, Nat.reduceAdd, Int.reduceBEq, Int.reduceBNe, Int.reduceLT, Zv, Ya, tup, tyf, List.take_succ_cons, List.take_zero, e00]
      refine hN1 _ _ ?_
      clear hN1 N1
      simp only [List.drop_succ_cons, List.drop_zero]
      refine Xi 8 fun N1 hN1 => ?_
      simp (maxSteps := 2000000) only [s11, ↓Za, ↓Zk, ↓Zs, ↓Ze, ↓Zj, ↓Zt, ↓Zg, ↓Zm, ↓Zf, ↓Zc, ↓Zb, ↓vdn, vup, Zo, Zh, Zi, Zn, Zl, List.map_cons, List.map_nil, cond_true, cond_false, aop, Zw, Zr, Zp, ev, sput, Zu, Zz, Yb, unK, Zd, Zx, Nat.reduceBEq, Nat.reduceAdd, Int.reduceBEq, Int.reduceBNe, Int.reduceLT, Zv, Ya, tup, tyf, List.take_succ_cons, List.take_zero, fA0, fA1, loadF0 k20, loadF1 k5, loadF1 k7, m1.1, m2.1]
      refine hN1 _ _ ?_
      clear hN1 N1
      simp only [List.drop_succ_cons, List.drop_zero]
      refine Xi 5 fun N1 hN1 => ?_
      simp (maxSteps := 2000000) only [s11, ↓Za, ↓Zk, ↓Zs, ↓Ze, ↓Zj, ↓Zt, ↓Zg, ↓Zm, ↓Zf, ↓Zc, ↓Zb, ↓vdn, vup, Zo, Zh, Zi, Zn, Zl, List.map_cons, List.map_nil, cond_true, cond_false, aop, Zw, Zr, Zp, ev, sput, Zu, Zz, Yb, unK, Zd, Zx, Nat.reduceBEq, Nat.reduceAdd, Int.reduceBEq, Int.reduceBNe, Int.reduceLT, Zv, Ya, tup, tyf, List.take_succ_cons, List.take_zero, fA0, fA1, loadF0 k5, loadF1 k7, m3.1]
      refine hN1 _ _ ?_
      clear hN1 N1
      simp only [List.drop_succ_cons, List.drop_zero]
      refine Xi 5 fun N1 hN1 => ?_
      simp (maxSteps := 2000000) only [s11, ↓Za, ↓Zk, ↓Zs, ↓Ze, ↓Zj, ↓Zt, ↓Zg, ↓Zm, ↓Zf, ↓Zc, ↓Zb, ↓vdn, vup, Zo, Zh, Zi, Zn, Zl, List.map_cons, List.map_nil, cond_true, cond_false, aop, Zw, Zr, Zp, ev, sput, Zu, Zz, Yb, unK, Zd, Zx, Nat.reduceBEq, Nat.reduceAdd, Int.reduceBEq, Int.reduceBNe, Int.reduceLT, Zv, Ya, tup, tyf, List.take_succ_cons, List.take_zero, fA0, fA1, loadF0 k7, loadF1 k5, m4.1]
      refine hN1 _ _ ?_
      clear hN1 N1
      simp only [List.drop_succ_cons, List.drop_zero]
      refine Xi 7 fun N1 hN1 => ?_
      simp (maxSteps := 2000000) only [s11, ↓Za, ↓Zk, ↓Zs, ↓Ze, ↓Zj, ↓Zt, ↓Zg, ↓Zm, ↓Zf, ↓Zc, ↓Zb, ↓vdn, vup, Zo, Zh, Zi, Zn, Zl, List.map_cons, List.map_nil, cond_true, cond_false, aop, Zw, Zr, Zp, ev, sput, Zu, Zz, Yb, unK, Zd, Zx, Nat.reduceBEq, Nat.reduceAdd, Int.reduceBEq, Int.reduceBNe, Int.reduceLT, Zv, Ya, tup, tyf, List.take_succ_cons, List.take_zero, fA1, loadF1 k20, m5, m6.1, heq]
      refine hN1 _ _ ?_
      clear hN1 N1
      simp only [List.drop_succ_cons, List.drop_zero]
      refine Xi 10 fun N1 hN1 => ?_
      simp (maxSteps := 2000000) only [s11, ↓Za, ↓Zk, ↓Zs, ↓Ze, ↓Zj, ↓Zt, ↓Zg, ↓Zm, ↓Zf, ↓Zc, ↓Zb, ↓vdn, vup, Zo, Zh, Zi, Zn, Zl, List.map_cons, List.map_nil, cond_true, cond_false, aop, Zw, Zr, Zp, ev, sput, Zu, Zz, Yb, unK, Zd, Zx, Nat.reduceBEq, Nat.reduceAdd, Int.reduceBEq, Int.reduceBNe, Int.reduceLT, Zv, Ya, tup, tyf, List.take_succ_cons, List.take_zero, lc1, lc2, lc3, hadd, hee]
      refine hN1 _ _ ?_
      clear hN1 N1
      simp only [List.drop_succ_cons, List.drop_zero]
      simp (maxSteps := 2000000) only [s11, ↓Za, ↓Zk, ↓Zs, ↓Ze, ↓Zj, ↓Zt, ↓Zg, ↓Zm, ↓Zf, ↓Zc, ↓Zb, ↓vdn, vup, Zo, Zh, Zi, Zn, Zl, List.map_cons, List.map_nil, cond_true, cond_false, aop, Zw, Zr, Zp, ev, sput, Zu, Zz, Yb, unK, Zd, Zx, Nat.reduceBEq, Nat.reduceAdd, Int.reduceBEq, Int.reduceBNe, Int.reduceLT, Zv, Ya, tup, tyf, Yv, List.nil_append, List.append_nil, List.toList_toArray, List.cons_append]
      refine awk fun g _ => ?_
      refine hN14 [(0, v), (1, w), (4, .bool true), (5, .pointer (some ⟨b5, 0, none⟩)), (6, .int .i64 0), (7, .pointer (some ⟨b7, 0, none⟩)), (8, .int .i64 0), (9, w1), (11, w2), (19, u2), (20, .pointer (some ⟨b20, 0, none⟩)), (21, w3)] _ _ ?_ (by simp (maxSteps := 2000000) only [↓Za, ↓Zk, ↓Zs, ↓Ze, ↓Zj, ↓Zt, ↓Zg, ↓Zm, ↓Zf, ↓Zc, ↓Zb, ↓vdn, vup, Zo, Zh, Zi, Zn, Zl, List.map_cons, List.map_nil, cond_true, cond_false, aop, Zw, Zr, Zp, ev, sput, Zu, Zz, Yb, unK, Zd, Zx, Nat.reduceBEq, Nat.reduceAdd, Int.reduceBEq, Int.reduceBNe, Int.reduceLT, Zv, Ya, tup, tyf])
      clear hN14
      try clear N14
      refine Ye ?_
      simp (maxSteps := 2000000) only [s11, ↓Za, ↓Zk, ↓Zs, ↓Ze, ↓Zj, ↓Zt, ↓Zg, ↓Zm, ↓Zf, ↓Zc, ↓Zb, ↓vdn, vup, Zo, Zh, Zi, Zn, Zl, List.map_cons, List.map_nil, cond_true, cond_false, aop, Zw, Zr, Zp, ev, sput, Zu, Zz, Yb, unK, Zd, Zx, Nat.reduceBEq, Nat.reduceAdd, Int.reduceBEq, Int.reduceBNe, Int.reduceLT, Zv, Ya, tup, tyf]
    · obtain ⟨rfl, rfl⟩ : u2 = .slice none 0 0 ∧ e2 = 6 := by
        rcases hcs with h | h | h
        · exact absurd ⟨hgx, hgy⟩ h.1
        · exact h.2.2
        · exact absurd h.2.1 hs2
      refine Yc fun N15 hN15 => ?_
      simp (maxSteps := 2000000) only [s11, ↓Za, ↓Zk, ↓Zs, ↓Ze, ↓Zj, ↓Zt, ↓Zg, ↓Zm, ↓Zf, ↓Zc, ↓Zb, ↓vdn, vup, Zo, Zh, Zi, Zn, Zl, List.map_cons, List.map_nil, cond_true, cond_false, aop, Zw, Zr, Zp, ev, sput, Zu, Zz, Yb, unK, Zd, Zx, Nat.reduceBEq, Nat.reduceAdd, Int.reduceBEq, Int.reduceBNe, Int.reduceLT, Zv, Ya, tup, tyf, n60]
      refine hN15 [(0, v), (1, w), (4, .bool false), (5, .pointer (some ⟨b5, 0, none⟩)), (6, .int .i64 6), (7, .pointer (some ⟨b7, 0, none⟩)), (9, w1), (11, w2), (19, .slice none 0 0), (154, .bool true)] _ _ ?_ (by simp (maxSteps := 2000000) only [↓Za, ↓Zk, ↓Zs, ↓Ze, ↓Zj, ↓Zt, ↓Zg, ↓Zm, ↓Zf, ↓Zc, ↓Zb, ↓vdn, vup, Zo, Zh, Zi, Zn, Zl, List.map_cons, List.map_nil, cond_true, cond_false, aop, Zw, Zr, Zp, ev, sput, Zu, Zz, Yb, unK, Zd, Zx, Nat.reduceBEq, Nat.reduceAdd, Int.reduceBEq, Int.reduceBNe, Int.reduceLT, Zv, Ya, tup, tyf])
      clear hN15
      try clear N15
      refine Xm rfl ?_
      refine Ye ?_
      simp (maxSteps := 2000000) only [s11, ↓Za, ↓Zk, ↓Zs, ↓Ze, ↓Zj, ↓Zt, ↓Zg, ↓Zm, ↓Zf, ↓Zc, ↓Zb, ↓vdn, vup, Zo, Zh, Zi, Zn, Zl, List.map_cons, List.map_nil, cond_true, cond_false, aop, Zw, Zr, Zp, ev, sput, Zu, Zz, Yb, unK, Zd, Zx, Nat.reduceBEq, Nat.reduceAdd, Int.reduceBEq, Int.reduceBNe, Int.reduceLT, Zv, Ya, tup, tyf, e66, Yv, List.nil_append, List.append_nil, List.toList_toArray, List.cons_append]
      refine awk fun g _ => ?_
      trivial
  refine Yc fun N16 hN16 => ?_
  simp (maxSteps := 2000000) only [s11, ↓Za, ↓Zk, ↓Zs, ↓Ze, ↓Zj, ↓Zt, ↓Zg, ↓Zm, ↓Zf, ↓Zc, ↓Zb, ↓vdn, vup, Zo, Zh, Zi, Zn, Zl, List.map_cons, List.map_nil, cond_true, cond_false, aop, Zw, Zr, Zp, ev, sput, Zu, Zz, Yb, unK, Zd, Zx, Nat.reduceBEq, Nat.reduceAdd, Int.reduceBEq, Int.reduceBNe, Int.reduceLT, Zv, Ya, tup, tyf, Yv, List.nil_append, List.append_nil, List.toList_toArray, List.cons_append]
  refine (Vj hv4 hl).mono ?_
  rintro l5 _ ⟨hl5, g5, rfl⟩
  refine (Vj (hw4.grow g5) hl2).mono ?_
  rintro l6 _ ⟨hl6, g6, rfl⟩
  refine (join_call (hl5.grow g6) (Ws xs) (Wr hx) hl6 (Ws ys) (Wr hx2)).mono ?_
  rintro r5 h5 ⟨hE5, hr5⟩
  obtain ⟨u1, e1, rfl, hcj⟩ := joinR_form (joinR_take hr5)
  simp (maxSteps := 2000000) only [s11, ↓Za, ↓Zk, ↓Zs, ↓Ze, ↓Zj, ↓Zt, ↓Zg, ↓Zm, ↓Zf, ↓Zc, ↓Zb, ↓vdn, vup, Zo, Zh, Zi, Zn, Zl, List.map_cons, List.map_nil, cond_true, cond_false, aop, Zw, Zr, Zp, ev, sput, Zu, Zz, Yb, unK, Zd, Zx, Nat.reduceBEq, Nat.reduceAdd, Int.reduceBEq, Int.reduceBNe, Int.reduceLT, Zv, Ya, tup, tyf]
  refine hN16 [(0, v), (1, w), (4, .bool false), (5, .pointer (some ⟨b5, 0, none⟩)), (7, .pointer (some ⟨b7, 0, none⟩)), (9, w1), (11, w2), (13, u1), (14, .int .i64 e1)] _ _ ?_ (by simp (maxSteps := 2000000) only [↓Za, ↓Zk, ↓Zs, ↓Ze, ↓Zj, ↓Zt, ↓Zg, ↓Zm, ↓Zf, ↓Zc, ↓Zb, ↓vdn, vup, Zo, Zh, Zi, Zn, Zl, List.map_cons, List.map_nil, cond_true, cond_false, aop, Zw, Zr, Zp, ev, sput, Zu, Zz, Yb, unK, Zd, Zx, Nat.reduceBEq, Nat.reduceAdd, Int.reduceBEq, Int.reduceBNe, Int.reduceLT, Zv, Ya, tup, tyf])
  clear hN16
  try clear N16
  have hE45 := ((Ext.app (fun _ => False) h4 g5).trans (Ext.app _ _ g6)).trans hE5
  clear hr5 hl5 hl6 hE5
  by_cases hs1 : xs.length * ys.length ≤ 6
  · obtain ⟨hu1, rfl⟩ : IntSl h5 u1 (joinL xs ys) ∧ e1 = 0 := by
      rcases hcj with h | h | h
      · exact absurd ⟨hgx, hgy⟩ h.1
      · exact absurd hs1 h.2.1
      · exact h.2.2
    refine Yc fun N17 hN17 => ?_
    simp (maxSteps := 2000000) only [s11, ↓Za, ↓Zk, ↓Zs, ↓Ze, ↓Zj, ↓Zt, ↓Zg, ↓Zm, ↓Zf, ↓Zc, ↓Zb, ↓vdn, vup, Zo, Zh, Zi, Zn, Zl, List.map_cons, List.map_nil, cond_true, cond_false, aop, Zw, Zr, Zp, ev, sput, Zu, Zz, Yb, unK, Zd, Zx, Nat.reduceBEq, Nat.reduceAdd, Int.reduceBEq, Int.reduceBNe, Int.reduceLT, Zv, Ya, tup, tyf, e00]
    refine hN17 [(0, v), (1, w), (4, .bool false), (5, .pointer (some ⟨b5, 0, none⟩)), (7, .pointer (some ⟨b7, 0, none⟩)), (9, w1), (11, w2), (13, u1), (14, .int .i64 0), (96, .bool true)] _ _ ?_ (by simp (maxSteps := 2000000) only [↓Za, ↓Zk, ↓Zs, ↓Ze, ↓Zj, ↓Zt, ↓Zg, ↓Zm, ↓Zf, ↓Zc, ↓Zb, ↓vdn, vup, Zo, Zh, Zi, Zn, Zl, List.map_cons, List.map_nil, cond_true, cond_false, aop, Zw, Zr, Zp, ev, sput, Zu, Zz, Yb, unK, Zd, Zx, Nat.reduceBEq, Nat.reduceAdd, Int.reduceBEq, Int.reduceBNe, Int.reduceLT, Zv, Ya, tup, tyf])
    clear hN17
    try clear N17
    refine Xm rfl ?_
    have gj := joinL_gs gx gy hs1
    have hgj := Wf.2 gj
    have hjl : (joinL xs ys).length = xs.length * ys.length := joinL_len xs ys
    refine Yc fun N18 hN18 => ?_
    simp (maxSteps := 2000000) only [s11, ↓Za, ↓Zk, ↓Zs, ↓Ze, ↓Zj, ↓Zt, ↓Zg, ↓Zm, ↓Zf, ↓Zc, ↓Zb, ↓vdn, vup, Zo, Zh, Zi, Zn, Zl, List.map_cons, List.map_nil, cond_true, cond_false, aop, Zw, Zr, Zp, ev, sput, Zu, Zz, Yb, unK, Zd, Zx, Nat.reduceBEq, Nat.reduceAdd, Int.reduceBEq, Int.reduceBNe, Int.reduceLT, Zv, Ya, tup, tyf, Yv, List.nil_append, List.append_nil, List.toList_toArray, List.cons_append]
    refine (clone_call hu1 (by omega)).mono ?_
    rintro l7 _ ⟨hl7, g7, rfl⟩
    refine (weigh_call hl7 (by omega) (gs_rng gj)).mono ?_
    rintro r6 h6 ⟨hE6, hr6⟩
    rw [weighR, if_pos hgj] at hr6
    obtain ⟨r, rfl, hr⟩ := hr6
    simp (maxSteps := 2000000) only [s11, ↓Za, ↓Zk, ↓Zs, ↓Ze, ↓Zj, ↓Zt, ↓Zg, ↓Zm, ↓Zf, ↓Zc, ↓Zb, ↓vdn, vup, Zo, Zh, Zi, Zn, Zl, List.map_cons, List.map_nil, cond_true, cond_false, aop, Zw, Zr, Zp, ev, sput, Zu, Zz, Yb, unK, Zd, Zx, Nat.reduceBEq, Nat.reduceAdd, Int.reduceBEq, Int.reduceBNe, Int.reduceLT, Zv, Ya, tup, tyf, qV, frV, Wm, Xv, Vl, newF]
    have hE56 := ((Ext.app (fun _ => False) h5 g7).trans hE6).trans (Ext.app _ _ [Blk.cells [Zy r.num, Zy r.den] 44 false])
    have k15 := Xa h6 (Blk.cells [Zy r.num, Zy r.den] 44 false)
    generalize h6 ++ [Blk.cells [Zy r.num, Zy r.den] 44 false] = H6 at hE56 k15 ⊢
    generalize h6.length = b15 at k15 ⊢
    refine hN18 [(0, v), (1, w), (4, .bool false), (5, .pointer (some ⟨b5, 0, none⟩)), (7, .pointer (some ⟨b7, 0, none⟩)), (9, w1), (11, w2), (13, u1), (14, .int .i64 0), (15, .pointer (some ⟨b15, 0, none⟩)), (16, .int .i64 0), (96, .bool true)] _ _ ?_ (by simp (maxSteps := 2000000) only [↓Za, ↓Zk, ↓Zs, ↓Ze, ↓Zj, ↓Zt, ↓Zg, ↓Zm, ↓Zf, ↓Zc, ↓Zb, ↓vdn, vup, Zo, Zh, Zi, Zn, Zl, List.map_cons, List.map_nil, cond_true, cond_false, aop, Zw, Zr, Zp, ev, sput, Zu, Zz, Yb, unK, Zd, Zx, Nat.reduceBEq, Nat.reduceAdd, Int.reduceBEq, Int.reduceBNe, Int.reduceLT, Zv, Ya, tup, tyf])
    clear hN18
    try clear N18
    have hu3 := Ys hu1 hE56
    refine Yc fun N19 hN19 => ?_
    simp (maxSteps := 2000000) only [s11, ↓Za, ↓Zk, ↓Zs, ↓Ze, ↓Zj, ↓Zt, ↓Zg, ↓Zm, ↓Zf, ↓Zc, ↓Zb, ↓vdn, vup, Zo, Zh, Zi, Zn, Zl, List.map_cons, List.map_nil, cond_true, cond_false, aop, Zw, Zr, Zp, ev, sput, Zu, Zz, Yb, unK, Zd, Zx, Nat.reduceBEq, Nat.reduceAdd, Int.reduceBEq, Int.reduceBNe, Int.reduceLT, Zv, Ya, tup, tyf, Yv, List.nil_append, List.append_nil, List.toList_toArray, List.cons_append]
    refine (code_call (k := 1) hu3 (by omega) (gs_rng gj)).mono ?_
    rintro r7 h7 ⟨hE7, hr7⟩
    obtain ⟨w3, rfl, hc3⟩ := code1_ok hgj hr7
    simp (maxSteps := 2000000) only [s11, ↓Za, ↓Zk, ↓Zs, ↓Ze, ↓Zj, ↓Zt, ↓Zg, ↓Zm, ↓Zf, ↓Zc, ↓Zb, ↓vdn, vup, Zo, Zh, Zi, Zn, Zl, List.map_cons, List.map_nil, cond_true, cond_false, aop, Zw, Zr, Zp, ev, sput, Zu, Zz, Yb, unK, Zd, Zx, Nat.reduceBEq, Nat.reduceAdd, Int.reduceBEq, Int.reduceBNe, Int.reduceLT, Zv, Ya, tup, tyf]
    refine hN19 [(0, v), (1, w), (4, .bool false), (5, .pointer (some ⟨b5, 0, none⟩)), (7, .pointer (some ⟨b7, 0, none⟩)), (9, w1), (11, w2), (13, u1), (14, .int .i64 0), (15, .pointer (some ⟨b15, 0, none⟩)), (16, .int .i64 0), (17, w3), (18, .int .i64 0), (96, .bool true)] _ _ ?_ (by simp (maxSteps := 2000000) only [↓Za, ↓Zk, ↓Zs, ↓Ze, ↓Zj, ↓Zt, ↓Zg, ↓Zm, ↓Zf, ↓Zc, ↓Zb, ↓vdn, vup, Zo, Zh, Zi, Zn, Zl, List.map_cons, List.map_nil, cond_true, cond_false, aop, Zw, Zr, Zp, ev, sput, Zu, Zz, Yb, unK, Zd, Zx, Nat.reduceBEq, Nat.reduceAdd, Int.reduceBEq, Int.reduceBNe, Int.reduceLT, Zv, Ya, tup, tyf])
    clear hN19
    try clear N19
    have hE47 := (hE45.trans hE56).trans hE7
    have k5 := (hE47.2 _ (Yx d5) id).trans d5
    have k7 := (hE47.2 _ (Yx d7) id).trans d7
    have k15 := (hE7.2 _ (Yx k15) id).trans k15
    have lc3 := hc3.int.len
    have hZ := join_most gx gy hs1
    rw [← hX, ← hY] at hZ
    rw [List.length_map] at lc3
    have hXY : X * Y ≤ 64 * 64 := Nat.mul_le_mul hX6 hY6
    have hmul : mulV .i64 (X : Int) (Y : Int) = ((X * Y : Nat) : Int) := mulN (by omega)
    have rn : r.num.natAbs ≤ 4320 := hr.2.1
    have rd : (r.den : Int).natAbs ≤ 720 := hr.2.2
    have m1 := mulB rn pd (by decide)
    have m2 := mulB m1.2 qd (by decide)
    have m3 := mulB pn qn (by decide)
    have m6 := mulB m3.2 rd (by decide)
    have heq : (r.num * p.den * q.den != p.num * q.num * r.den) = false := by
      rw [bne_eq_false_iff_eq]; exact mul_ints (join_weigh gx gy hs1 hp hq hr)
    have hlt : ¬ (((codeL (Xr (joinL xs ys) 1)).length : Nat) : Int) < ((X * Y : Nat) : Int) := by omega
    refine Yc fun N20 hN20 => ?_
    simp only [q11_13]
    refine Xi 7 fun N1 hN1 => ?_
    simp (maxSteps := 2000000) only [s11, ↓Za, ↓Zk, ↓Zs, ↓Ze, ↓Zj, ↓Zt, ↓Zg, ↓Zm, ↓Zf, ↓Zc, ↓Zb, ↓vdn, vup, Zo, Zh, Zi, Zn, Zl, List.map_cons, List.map_nil, cond_true, cond_false, aop, Zw, Zr, Zp, ev, sput, Zu, Zz, Yb, unK, Zd, Zx, Nat.reduceBEq, Nat.reduceAdd, Int.reduceBEq, Int.reduceBNe, Int.reduceLT, Zv, Ya, tup, tyf, List.take_succ_cons, List.take_zero, n00]
    refine hN1 _ _ ?_
    clear hN1 N1
    simp only [List.drop_succ_cons, List.drop_zero]
    refine Xi 8 fun N1 hN1 => ?_
    simp (maxSteps := 2000000) only [s11, ↓Za, ↓Zk, ↓Zs, ↓Ze, ↓Zj, ↓Zt, ↓Zg, ↓Zm, ↓Zf, ↓Zc, ↓Zb, ↓vdn, vup, Zo, Zh, Zi, Zn, Zl, List.map_cons, List.map_nil, cond_true, cond_false, aop, Zw, Zr, Zp, ev, sput, Zu, Zz, Yb, unK, Zd, Zx, Nat.reduceBEq, Nat.reduceAdd, Int.reduceBEq, Int.reduceBNe, Int.reduceLT, Zv, Ya, tup, tyf, List.take_succ_cons, List.take_zero, fA0, fA1, loadF0 k15, loadF1 k5, loadF1 k7, m1.1, m2.1]
    refine hN1 _ _ ?_
    clear hN1 N1
    simp only [List.drop_succ_cons, List.drop_zero]
    refine Xi 5 fun N1 hN1 => ?_
    simp (maxSteps := 2000000) only [s11, ↓Za, ↓Zk, ↓Zs, ↓Ze, ↓Zj, ↓Zt, ↓Zg, ↓Zm, ↓Zf, ↓Zc, ↓Zb, ↓vdn, vup, Zo, Zh, Zi, Zn, Zl, List.map_cons, List.map_nil, cond_true, cond_false, aop, Zw, Zr, Zp, ev, sput, Zu, Zz, Yb, unK, Zd, Zx, Nat.reduceBEq, Nat.reduceAdd, Int.reduceBEq, Int.reduceBNe, Int.reduceLT, Zv, Ya, tup, tyf, List.take_succ_cons, List.take_zero, fA0, loadF0 k5, loadF0 k7, m3.1]
    refine hN1 _ _ ?_
    clear hN1 N1
    simp only [List.drop_succ_cons, List.drop_zero]
    refine Xi 6 fun N1 hN1 => ?_
    simp (maxSteps := 2000000) only [s11, ↓Za, ↓Zk, ↓Zs, ↓Ze, ↓Zj, ↓Zt, ↓Zg, ↓Zm, ↓Zf, ↓Zc, ↓Zb, ↓vdn, vup, Zo, Zh, Zi, Zn, Zl, List.map_cons, List.map_nil, cond_true, cond_false, aop, Zw, Zr, Zp, ev, sput, Zu, Zz, Yb, unK, Zd, Zx, Nat.reduceBEq, Nat.reduceAdd, Int.reduceBEq, Int.reduceBNe, Int.reduceLT, Zv, Ya, tup, tyf, List.take_succ_cons, List.take_zero, fA1, loadF1 k15, m6.1, heq]
    refine hN1 _ _ ?_
    clear hN1 N1
    simp only [List.drop_succ_cons, List.drop_zero]
    simp (maxSteps := 2000000) only [s11, ↓Za, ↓Zk, ↓Zs, ↓Ze, ↓Zj, ↓Zt, ↓Zg, ↓Zm, ↓Zf, ↓Zc, ↓Zb, ↓vdn, vup, Zo, Zh, Zi, Zn, Zl, List.map_cons, List.map_nil, cond_true, cond_false, aop, Zw, Zr, Zp, ev, sput, Zu, Zz, Yb, unK, Zd, Zx, Nat.reduceBEq, Nat.reduceAdd, Int.reduceBEq, Int.reduceBNe, Int.reduceLT, Zv, Ya, tup, tyf, lc1, lc2, lc3, hmul, hlt]
    refine hN20 [(0, v), (1, w), (4, .bool false), (5, .pointer (some ⟨b5, 0, none⟩)), (7, .pointer (some ⟨b7, 0, none⟩)), (9, w1), (11, w2), (13, u1), (14, .int .i64 0), (15, .pointer (some ⟨b15, 0, none⟩)), (16, .int .i64 0), (17, w3), (18, .int .i64 0), (96, .bool true), (142, .bool false)] _ _ ?_ (by simp (maxSteps := 2000000) only [↓Za, ↓Zk, ↓Zs, ↓Ze, ↓Zj, ↓Zt, ↓Zg, ↓Zm, ↓Zf, ↓Zc, ↓Zb, ↓vdn, vup, Zo, Zh, Zi, Zn, Zl, List.map_cons, List.map_nil, cond_true, cond_false, aop, Zw, Zr, Zp, ev, sput, Zu, Zz, Yb, unK, Zd, Zx, Nat.reduceBEq, Nat.reduceAdd, Int.reduceBEq, Int.reduceBNe, Int.reduceLT, Zv, Ya, tup, tyf])
    clear hN20
    try clear N20
    refine Yy rfl ?_
    refine Ye ?_
    simp (maxSteps := 2000000) only [s11, ↓Za, ↓Zk, ↓Zs, ↓Ze, ↓Zj, ↓Zt, ↓Zg, ↓Zm, ↓Zf, ↓Zc, ↓Zb, ↓vdn, vup, Zo, Zh, Zi, Zn, Zl, List.map_cons, List.map_nil, cond_true, cond_false, aop, Zw, Zr, Zp, ev, sput, Zu, Zz, Yb, unK, Zd, Zx, Nat.reduceBEq, Nat.reduceAdd, Int.reduceBEq, Int.reduceBNe, Int.reduceLT, Zv, Ya, tup, tyf]
    exact go _ hE47 _ (by simp (maxSteps := 2000000) only [↓Za, ↓Zk, ↓Zs, ↓Ze, ↓Zj, ↓Zt, ↓Zg, ↓Zm, ↓Zf, ↓Zc, ↓Zb, ↓vdn, vup, Zo, Zh, Zi, Zn, Zl, List.map_cons, List.map_nil, cond_true, cond_false, aop, Zw, Zr, Zp, ev, sput, Zu, Zz, Yb, unK, Zd, Zx, Nat.reduceBEq, Nat.reduceAdd, Int.reduceBEq, Int.reduceBNe, Int.reduceLT, Zv, Ya, tup, tyf])
  · obtain ⟨rfl, rfl⟩ : u1 = .slice none 0 0 ∧ e1 = 6 := by
      rcases hcj with h | h | h
      · exact absurd ⟨hgx, hgy⟩ h.1
      · exact h.2.2
      · exact absurd h.2.1 hs1
    refine Yc fun N21 hN21 => ?_
    simp (maxSteps := 2000000) only [s11, ↓Za, ↓Zk, ↓Zs, ↓Ze, ↓Zj, ↓Zt, ↓Zg, ↓Zm, ↓Zf, ↓Zc, ↓Zb, ↓vdn, vup, Zo, Zh, Zi, Zn, Zl, List.map_cons, List.map_nil, cond_true, cond_false, aop, Zw, Zr, Zp, ev, sput, Zu, Zz, Yb, unK, Zd, Zx, Nat.reduceBEq, Nat.reduceAdd, Int.reduceBEq, Int.reduceBNe, Int.reduceLT, Zv, Ya, tup, tyf, e60]
    refine hN21 [(0, v), (1, w), (4, .bool false), (5, .pointer (some ⟨b5, 0, none⟩)), (7, .pointer (some ⟨b7, 0, none⟩)), (9, w1), (11, w2), (13, .slice none 0 0), (14, .int .i64 6), (96, .bool false)] _ _ ?_ (by simp (maxSteps := 2000000) only [↓Za, ↓Zk, ↓Zs, ↓Ze, ↓Zj, ↓Zt, ↓Zg, ↓Zm, ↓Zf, ↓Zc, ↓Zb, ↓vdn, vup, Zo, Zh, Zi, Zn, Zl, List.map_cons, List.map_nil, cond_true, cond_false, aop, Zw, Zr, Zp, ev, sput, Zu, Zz, Yb, unK, Zd, Zx, Nat.reduceBEq, Nat.reduceAdd, Int.reduceBEq, Int.reduceBNe, Int.reduceLT, Zv, Ya, tup, tyf])
    clear hN21
    try clear N21
    refine Yy rfl ?_
    refine Yc fun N22 hN22 => ?_
    simp (maxSteps := 2000000) only [s11, ↓Za, ↓Zk, ↓Zs, ↓Ze, ↓Zj, ↓Zt, ↓Zg, ↓Zm, ↓Zf, ↓Zc, ↓Zb, ↓vdn, vup, Zo, Zh, Zi, Zn, Zl, List.map_cons, List.map_nil, cond_true, cond_false, aop, Zw, Zr, Zp, ev, sput, Zu, Zz, Yb, unK, Zd, Zx, Nat.reduceBEq, Nat.reduceAdd, Int.reduceBEq, Int.reduceBNe, Int.reduceLT, Zv, Ya, tup, tyf, n66]
    refine hN22 [(0, v), (1, w), (4, .bool false), (5, .pointer (some ⟨b5, 0, none⟩)), (7, .pointer (some ⟨b7, 0, none⟩)), (9, w1), (11, w2), (13, .slice none 0 0), (14, .int .i64 6), (96, .bool false), (144, .bool false)] _ _ ?_ (by simp (maxSteps := 2000000) only [↓Za, ↓Zk, ↓Zs, ↓Ze, ↓Zj, ↓Zt, ↓Zg, ↓Zm, ↓Zf, ↓Zc, ↓Zb, ↓vdn, vup, Zo, Zh, Zi, Zn, Zl, List.map_cons, List.map_nil, cond_true, cond_false, aop, Zw, Zr, Zp, ev, sput, Zu, Zz, Yb, unK, Zd, Zx, Nat.reduceBEq, Nat.reduceAdd, Int.reduceBEq, Int.reduceBNe, Int.reduceLT, Zv, Ya, tup, tyf])
    clear hN22
    try clear N22
    refine Yy rfl ?_
    refine Ye ?_
    simp (maxSteps := 2000000) only [s11, ↓Za, ↓Zk, ↓Zs, ↓Ze, ↓Zj, ↓Zt, ↓Zg, ↓Zm, ↓Zf, ↓Zc, ↓Zb, ↓vdn, vup, Zo, Zh, Zi, Zn, Zl, List.map_cons, List.map_nil, cond_true, cond_false, aop, Zw, Zr, Zp, ev, sput, Zu, Zz, Yb, unK, Zd, Zx, Nat.reduceBEq, Nat.reduceAdd, Int.reduceBEq, Int.reduceBNe, Int.reduceLT, Zv, Ya, tup, tyf]
    exact go _ hE45 _ (by simp (maxSteps := 2000000) only [↓Za, ↓Zk, ↓Zs, ↓Ze, ↓Zj, ↓Zt, ↓Zg, ↓Zm, ↓Zf, ↓Zc, ↓Zb, ↓vdn, vup, Zo, Zh, Zi, Zn, Zl, List.map_cons, List.map_nil, cond_true, cond_false, aop, Zw, Zr, Zp, ev, sput, Zu, Zz, Yb, unK, Zd, Zx, Nat.reduceBEq, Nat.reduceAdd, Int.reduceBEq, Int.reduceBNe, Int.reduceLT, Zv, Ya, tup, tyf])
end Go.Proofs.Tryd.Am

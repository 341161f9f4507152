/-
  sure: Cramer's rule.
  sure: fractions: the program's arithmetic, and the reference's.
  sure: sets within others.
  sure: a corner as the program tries it. Plain Lean, no program.
-/
import Derived.Test.YtaagkbbphgdcdaaDoorPk7
import Derived.Test.YtaagkbbphgdcdaaDoorPk4
import Derived.Test.YtaagkbbphgdcdaaDoorPk6
set_option linter.all false
namespace Go.Proofs.Tryd.Am
open Go.Am
set_option maxRecDepth 100000
set_option maxHeartbeats 4000000

theorem ownSl_store {h : Yd} {v : Value} {xs : List Int} {j : Nat} {x : Int} (ho : OwnSl 3 h v xs) (hj : j < xs.length) {K : Yd → Prop} (hk : ∀ h', OwnSl 3 h' v (xs.set j x) → Ext (fun i => Yq v = some i) h h' → K h') : Xp prog h 3 (Wq v 1 j) (Zy x) K := by
  rcases ho with ⟨rfl, rfl⟩ | ⟨b, ys, rfl, hb⟩
  · simp at hj
  · have hjl : j < (xs ++ ys).length := by rw [List.length_append]; omega
    simp only [Wq, Nat.zero_add, Nat.mul_one]
    rw [storeBI hb Xj hjl, List.set_append_left _ _ hj]
    exact hk _ (.inr ⟨b, ys, by rw [List.length_set], by rw [List.getElem?_set_self (Yx hb)]⟩) (Ext.set _ rfl)
theorem RSI.ext {h0 h h' : Yd} {v : Value} {xs : List Int} (o : RSI h0 h v xs) (hE : Ext (fun _ => False) h h') : RSI h0 h' v xs := ⟨o.1.ext (S := fun _ => False) hE fun _ _ => id, o.2.1.trans hE, o.2.2⟩
theorem rowsI_of {h : Yd} {v : Value} {rows : List (List Int)} (o : OwnL 22 3 h v rows) : RowsI h v rows := by
  obtain ⟨ws, h1, h2⟩ := o
  exact ⟨ws, h1.val, h2.imp fun w l hw => hw.int⟩
def numT (n : Nat) (s : List (List Int)) (k : Nat) : List Int := (List.range k).map fun j => Bq.pdet n (s.map (Bq.putR n j))
def numL (n : Nat) (s : List (List Int)) : List Int := if Bq.pdet n s < 0 then (numT n s n).map (- ·) else numT n s n
theorem numT_len (n : Nat) (s : List (List Int)) (k : Nat) : (numT n s k).length = k := by simp [numT]
theorem numT_succ (n : Nat) (s : List (List Int)) (k : Nat) : numT n s (k + 1) = numT n s k ++ [Bq.pdet n (s.map (Bq.putR n k))] := by rw [numT, List.range_succ, List.map_append]; rfl
theorem numT_get {n : Nat} {s : List (List Int)} {k j : Nat} (h : j < k) : (numT n s k).getD j 0 = Bq.pdet n (s.map (Bq.putR n j)) := by
  rw [numT, List.getD, List.getElem?_map, List.getElem?_range h]; rfl
def ngT (xs : List Int) (k : Nat) : List Int := (xs.take k).map (- ·) ++ xs.drop k
theorem ngT_len (xs : List Int) (k : Nat) : (ngT xs k).length = xs.length := by simp [ngT]; omega
theorem ngT_get {xs : List Int} {k : Nat} (h : k < xs.length) : (ngT xs k).getD k 0 = xs.getD k 0 := by
  rw [ngT, List.getD, List.getElem?_append_right (by rw [List.length_map, List.length_take]; omega)]
  simp only [List.length_map, List.length_take, List.getElem?_drop]
  rw [show k + (k - min k xs.length) = k by omega, List.getD]
theorem ngT_set {xs : List Int} {k : Nat} (h : k < xs.length) : (ngT xs k).set k (- xs.getD k 0) = ngT xs (k + 1) := by
  have hd : xs.drop k = xs.getD k 0 :: xs.drop (k + 1) := by
    rw [List.drop_eq_getElem_cons h, List.getD, List.getElem?_eq_getElem h]; rfl
  have hl : ((xs.take k).map (- ·)).length = k := by rw [List.length_map, List.length_take]; omega
  rw [ngT, hd, List.set_append_right _ _ (by omega), hl, Nat.sub_self, List.set_cons_zero, ngT, List.take_succ, List.map_append, List.getElem?_eq_getElem h, List.append_assoc]
  simp [List.getD, List.getElem?_eq_getElem h]

theorem s86_callW [Tabs Tryd.prog] {args : List Value} {h : Yd} {Q : Value → Yd → Prop} (hsz : args.length ≤ 69) (hk : AWS Tryd.prog 69 s86 (Zv Tryd.prog [.tmp 2, .tmp 3, .tmp 4] Q) (Zp 0 args) h) : ACall Tryd.prog 86 args h Q :=
  Xq Tryd.func86 rfl (enters_of Tryd.func86 (by kernel_rfl) rfl) rfl rfl (by decide) s86_strip s86_ok hsz hk
theorem solve_call [Tabs prog] {n : Nat} {h : Yd} {v : Value} {s : List (List Int)} (h6 : n ≤ 6) (hl : s.length = n) (hr : ∀ r ∈ s, r.length = n + 1 ∧ ∀ y ∈ r, y = 0 ∨ y = 1) (hv : RowsI h v s) :
    ACall prog 86 [v] h fun r h' => Ext (fun _ => False) h h' ∧ if Bq.pdet n s = 0 then r = .tuple #[.slice none 0 0, .int .i64 0, .bool false] else ∃ w, r = .tuple #[w, Zy (Bq.pdet n s).natAbs, .bool true] ∧ IntSl h' w (numL n s) := by
  have hr1 : ∀ r ∈ s, n ≤ r.length ∧ ∀ y ∈ r, y = 0 ∨ y = 1 := fun r h => ⟨by rw [(hr r h).1]; omega, (hr r h).2⟩
  have hput : ∀ j r, r ∈ s → j < n → (Bq.putR n j r).length = n + 1 ∧ ∀ y ∈ Bq.putR n j r, y = 0 ∨ y = 1 := fun j r hm hj => by
    obtain ⟨e1, e2⟩ := hr r hm
    refine ⟨by rw [Bq.putR, List.length_set, e1], fun y hy => ?_⟩
    rw [Bq.putR] at hy
    rcases List.mem_or_eq_of_mem_set hy with h | h
    · exact e2 y h
    · rw [h, List.getD, List.getElem?_eq_getElem (by omega)]; exact e2 _ (List.getElem_mem _)
  have hpm : ∀ j, j < n → (s.map (Bq.putR n j)).length = n ∧ ∀ r ∈ s.map (Bq.putR n j), n ≤ r.length ∧ ∀ y ∈ r, y = 0 ∨ y = 1 := fun j hj => ⟨by rw [List.length_map, hl], fun r hm => by
    obtain ⟨r', h1, rfl⟩ := List.mem_map.1 hm
    obtain ⟨e1, e2⟩ := hput j r' h1 hj
    exact ⟨by omega, e2⟩⟩
  have habs : ∀ j, j < n → (Bq.pdet n (s.map (Bq.putR n j))).natAbs ≤ 720 := fun j hj => Nat.le_trans (Bq.pdet_abs n _ (hpm j hj).1 fun r h => ((hpm j hj).2 r h).2) (fact_le h6)
  have hab : (Bq.pdet n s).natAbs ≤ 720 := Nat.le_trans (Bq.pdet_abs n _ hl fun r h => (hr r h).2) (fact_le h6)
  obtain ⟨ws, w1, w2⟩ := id hv
  have hwl : ws.length = n := w2.len.trans hl
  obtain ⟨d, hd⟩ : ∃ d, Bq.pdet n s = d := ⟨_, rfl⟩
  refine s86_callW (by simp) ?_
  simp only [s86]
  refine Yc fun N1 hN1 => ?_
  simp (maxSteps := 2000000) only [s86, ↓Za, ↓Zk, ↓Zs, ↓Ze, ↓Zj, ↓Zt, ↓Zg, ↓Zm, ↓Zf, ↓Zc, ↓Zb, ↓vdn, vup, Zo, Zh, Zi, Zn, Zl, List.map_cons, List.map_nil, cond_true, cond_false, aop, Zw, Zr, Zp, ev, sput, Zu, Zz, Yb, unK, Zd, Zx, Nat.reduceBEq, Nat.reduceAdd, Int.reduceBEq, Int.reduceBNe, Int.reduceLT, Zv, Ya, tup, tyf]
  refine hN1 [(0, v), (2, .slice none 0 0), (3, .int .i64 0), (4, .bool false)] _ _ ?_ (by simp (maxSteps := 2000000) only [↓Za, ↓Zk, ↓Zs, ↓Ze, ↓Zj, ↓Zt, ↓Zg, ↓Zm, ↓Zf, ↓Zc, ↓Zb, ↓vdn, vup, Zo, Zh, Zi, Zn, Zl, List.map_cons, List.map_nil, cond_true, cond_false, aop, Zw, Zr, Zp, ev, sput, Zu, Zz, Yb, unK, Zd, Zx, Nat.reduceBEq, Nat.reduceAdd, Int.reduceBEq, Int.reduceBNe, Int.reduceLT, Zv, Ya, tup, tyf])
  clear hN1
  try clear N1
  refine Yc fun N2 hN2 => ?_
  simp (maxSteps := 2000000) only [s86, ↓Za, ↓Zk, ↓Zs, ↓Ze, ↓Zj, ↓Zt, ↓Zg, ↓Zm, ↓Zf, ↓Zc, ↓Zb, ↓vdn, vup, Zo, Zh, Zi, Zn, Zl, List.map_cons, List.map_nil, cond_true, cond_false, aop, Zw, Zr, Zp, ev, sput, Zu, Zz, Yb, unK, Zd, Zx, Nat.reduceBEq, Nat.reduceAdd, Int.reduceBEq, Int.reduceBNe, Int.reduceLT, Zv, Ya, tup, tyf, w1.len, hwl]
  refine hN2 [(0, v), (2, .slice none 0 0), (3, .int .i64 0), (4, .bool false), (5, Zy (n : Nat))] _ _ ?_ (by simp (maxSteps := 2000000) only [↓Za, ↓Zk, ↓Zs, ↓Ze, ↓Zj, ↓Zt, ↓Zg, ↓Zm, ↓Zf, ↓Zc, ↓Zb, ↓vdn, vup, Zo, Zh, Zi, Zn, Zl, List.map_cons, List.map_nil, cond_true, cond_false, aop, Zw, Zr, Zp, ev, sput, Zu, Zz, Yb, unK, Zd, Zx, Nat.reduceBEq, Nat.reduceAdd, Int.reduceBEq, Int.reduceBNe, Int.reduceLT, Zv, Ya, tup, tyf])
  clear hN2
  try clear N2
  refine Yc fun N3 hN3 => ?_
  simp (maxSteps := 2000000) only [s86, ↓Za, ↓Zk, ↓Zs, ↓Ze, ↓Zj, ↓Zt, ↓Zg, ↓Zm, ↓Zf, ↓Zc, ↓Zb, ↓vdn, vup, Zo, Zh, Zi, Zn, Zl, List.map_cons, List.map_nil, cond_true, cond_false, aop, Zw, Zr, Zp, ev, sput, Zu, Zz, Yb, unK, Zd, Zx, Nat.reduceBEq, Nat.reduceAdd, Int.reduceBEq, Int.reduceBNe, Int.reduceLT, Zv, Ya, tup, tyf, Yv, List.nil_append, List.append_nil, List.toList_toArray, List.cons_append]
  refine (det_call n h6 hl hr1 hv).mono ?_
  rintro _ h ⟨rfl, rfl⟩
  rw [hd]
  refine hN3 [(0, v), (2, .slice none 0 0), (3, Zy d), (4, .bool false), (5, Zy (n : Nat))] _ _ ?_ (by simp (maxSteps := 2000000) only [↓Za, ↓Zk, ↓Zs, ↓Ze, ↓Zj, ↓Zt, ↓Zg, ↓Zm, ↓Zf, ↓Zc, ↓Zb, ↓vdn, vup, Zo, Zh, Zi, Zn, Zl, List.map_cons, List.map_nil, cond_true, cond_false, aop, Zw, Zr, Zp, ev, sput, Zu, Zz, Yb, unK, Zd, Zx, Nat.reduceBEq, Nat.reduceAdd, Int.reduceBEq, Int.reduceBNe, Int.reduceLT, Zv, Ya, tup, tyf])
  clear hN3
  try clear N3
  rw [hd] at hab
  refine Yf fun M hM => ?_
  refine Yc fun N4 hN4 => ?_
  simp (maxSteps := 2000000) only [s86, ↓Za, ↓Zk, ↓Zs, ↓Ze, ↓Zj, ↓Zt, ↓Zg, ↓Zm, ↓Zf, ↓Zc, ↓Zb, ↓vdn, vup, Zo, Zh, Zi, Zn, Zl, List.map_cons, List.map_nil, cond_true, cond_false, aop, Zw, Zr, Zp, ev, sput, Zu, Zz, Yb, unK, Zd, Zx, Nat.reduceBEq, Nat.reduceAdd, Int.reduceBEq, Int.reduceBNe, Int.reduceLT, Zv, Ya, tup, tyf]
  refine hN4 [(0, v), (2, .slice none 0 0), (3, Zy d), (4, .bool false), (5, Zy (n : Nat)), (17, .bool (d == 0))] _ _ ?_ (by simp (maxSteps := 2000000) only [↓Za, ↓Zk, ↓Zs, ↓Ze, ↓Zj, ↓Zt, ↓Zg, ↓Zm, ↓Zf, ↓Zc, ↓Zb, ↓vdn, vup, Zo, Zh, Zi, Zn, Zl, List.map_cons, List.map_nil, cond_true, cond_false, aop, Zw, Zr, Zp, ev, sput, Zu, Zz, Yb, unK, Zd, Zx, Nat.reduceBEq, Nat.reduceAdd, Int.reduceBEq, Int.reduceBNe, Int.reduceLT, Zv, Ya, tup, tyf])
  clear hN4
  try clear N4
  by_cases hd0 : d = 0
  · have hb : (d == 0) = true := by rw [hd0]; rfl
    rw [hb]
    refine Xm rfl ?_
    refine Ye ?_
    simp (maxSteps := 2000000) only [s86, ↓Za, ↓Zk, ↓Zs, ↓Ze, ↓Zj, ↓Zt, ↓Zg, ↓Zm, ↓Zf, ↓Zc, ↓Zb, ↓vdn, vup, Zo, Zh, Zi, Zn, Zl, List.map_cons, List.map_nil, cond_true, cond_false, aop, Zw, Zr, Zp, ev, sput, Zu, Zz, Yb, unK, Zd, Zx, Nat.reduceBEq, Nat.reduceAdd, Int.reduceBEq, Int.reduceBNe, Int.reduceLT, Zv, Ya, tup, tyf]
    refine ⟨Ext.refl _ _, by rw [if_pos (hd.trans hd0)]; trivial⟩
  have hb : (d == 0) = false := by rw [beq_eq_false_iff_ne]; exact hd0
  rw [hb]
  refine Yy rfl ?_
  refine Ye ?_
  simp (maxSteps := 2000000) only [s86, ↓Za, ↓Zk, ↓Zs, ↓Ze, ↓Zj, ↓Zt, ↓Zg, ↓Zm, ↓Zf, ↓Zc, ↓Zb, ↓vdn, vup, Zo, Zh, Zi, Zn, Zl, List.map_cons, List.map_nil, cond_true, cond_false, aop, Zw, Zr, Zp, ev, sput, Zu, Zz, Yb, unK, Zd, Zx, Nat.reduceBEq, Nat.reduceAdd, Int.reduceBEq, Int.reduceBNe, Int.reduceLT, Zv, Ya, tup, tyf]
  refine hM [(0, v), (2, .slice none 0 0), (3, Zy d), (4, .bool false), (5, Zy (n : Nat))] _ _ ?_ (by simp (maxSteps := 2000000) only [↓Za, ↓Zk, ↓Zs, ↓Ze, ↓Zj, ↓Zt, ↓Zg, ↓Zm, ↓Zf, ↓Zc, ↓Zb, ↓vdn, vup, Zo, Zh, Zi, Zn, Zl, List.map_cons, List.map_nil, cond_true, cond_false, aop, Zw, Zr, Zp, ev, sput, Zu, Zz, Yb, unK, Zd, Zx, Nat.reduceBEq, Nat.reduceAdd, Int.reduceBEq, Int.reduceBNe, Int.reduceLT, Zv, Ya, tup, tyf])
  clear hM
  try clear M
  refine Yf fun Z hZ => ?_
  refine Yc fun N5 hN5 => ?_
  simp (maxSteps := 2000000) only [s86, ↓Za, ↓Zk, ↓Zs, ↓Ze, ↓Zj, ↓Zt, ↓Zg, ↓Zm, ↓Zf, ↓Zc, ↓Zb, ↓vdn, vup, Zo, Zh, Zi, Zn, Zl, List.map_cons, List.map_nil, cond_true, cond_false, aop, Zw, Zr, Zp, ev, sput, Zu, Zz, Yb, unK, Zd, Zx, Nat.reduceBEq, Nat.reduceAdd, Int.reduceBEq, Int.reduceBNe, Int.reduceLT, Zv, Ya, tup, tyf]
  refine hN5 [(0, v), (2, .slice none 0 0), (3, Zy d), (4, .bool false), (5, Zy (n : Nat)), (18, Zy (n : Nat)), (19, .int .i64 0)] _ _ ?_ (by simp (maxSteps := 2000000) only [↓Za, ↓Zk, ↓Zs, ↓Ze, ↓Zj, ↓Zt, ↓Zg, ↓Zm, ↓Zf, ↓Zc, ↓Zb, ↓vdn, vup, Zo, Zh, Zi, Zn, Zl, List.map_cons, List.map_nil, cond_true, cond_false, aop, Zw, Zr, Zp, ev, sput, Zu, Zz, Yb, unK, Zd, Zx, Nat.reduceBEq, Nat.reduceAdd, Int.reduceBEq, Int.reduceBNe, Int.reduceLT, Zv, Ya, tup, tyf])
  clear hN5
  try clear N5
  refine Ym ?_
  refine Yg fun Q hQ => ?_
  refine Xu (γ := Nat × Value × Yd) (fun g => g.1 ≤ n ∧ RSI h g.2.2 g.2.1 (numT n s g.1))
    (fun g => ([(0, v), (2, g.2.1), (3, Zy d), (4, .bool false), (5, Zy (n : Nat)), (18, Zy (n : Nat)), (19, Zy (g.1 : Nat))], g.2.2)) (fun g => n - g.1) (0, .slice none 0 0, h) ⟨Nat.zero_le _, RSI.nil h⟩ (by simp (maxSteps := 2000000) only [↓Za, ↓Zk, ↓Zs, ↓Ze, ↓Zj, ↓Zt, ↓Zg, ↓Zm, ↓Zf, ↓Zc, ↓Zb, ↓vdn, vup, Zo, Zh, Zi, Zn, Zl, List.map_cons, List.map_nil, cond_true, cond_false, aop, Zw, Zr, Zp, ev, sput, Zu, Zz, Yb, unK, Zd, Zx, Nat.reduceBEq, Nat.reduceAdd, Int.reduceBEq, Int.reduceBNe, Int.reduceLT, Zv, Ya, tup, tyf, Int.natCast_zero]) rfl ?_
  rintro ⟨j, nv, H⟩ ⟨hj, hnv⟩
  simp only at hj hnv
  have hE := hnv.2.1
  refine Yg fun Q2 hQ2 => ?_
  simp only [l86_1]
  by_cases hjn : (j : Int) < n
  · have hj' : j < n := by omega
    refine Yc fun N6 hN6 => ?_
    simp (maxSteps := 2000000) only [s86, ↓Za, ↓Zk, ↓Zs, ↓Ze, ↓Zj, ↓Zt, ↓Zg, ↓Zm, ↓Zf, ↓Zc, ↓Zb, ↓vdn, vup, Zo, Zh, Zi, Zn, Zl, List.map_cons, List.map_nil, cond_true, cond_false, aop, Zw, Zr, Zp, ev, sput, Zu, Zz, Yb, unK, Zd, Zx, Nat.reduceBEq, Nat.reduceAdd, Int.reduceBEq, Int.reduceBNe, Int.reduceLT, Zv, Ya, tup, tyf, hjn]
    refine hN6 [(0, v), (2, nv), (3, Zy d), (4, .bool false), (5, Zy (n : Nat)), (18, Zy (n : Nat)), (19, Zy (j : Nat)), (20, .bool true)] _ _ ?_ (by simp (maxSteps := 2000000) only [↓Za, ↓Zk, ↓Zs, ↓Ze, ↓Zj, ↓Zt, ↓Zg, ↓Zm, ↓Zf, ↓Zc, ↓Zb, ↓vdn, vup, Zo, Zh, Zi, Zn, Zl, List.map_cons, List.map_nil, cond_true, cond_false, aop, Zw, Zr, Zp, ev, sput, Zu, Zz, Yb, unK, Zd, Zx, Nat.reduceBEq, Nat.reduceAdd, Int.reduceBEq, Int.reduceBNe, Int.reduceLT, Zv, Ya, tup, tyf])
    clear hN6
    try clear N6
    refine Yc fun N7 hN7 => ?_
    simp (maxSteps := 2000000) only [s86, ↓Za, ↓Zk, ↓Zs, ↓Ze, ↓Zj, ↓Zt, ↓Zg, ↓Zm, ↓Zf, ↓Zc, ↓Zb, ↓vdn, vup, Zo, Zh, Zi, Zn, Zl, List.map_cons, List.map_nil, cond_true, cond_false, aop, Zw, Zr, Zp, ev, sput, Zu, Zz, Yb, unK, Zd, Zx, Nat.reduceBEq, Nat.reduceAdd, Int.reduceBEq, Int.reduceBNe, Int.reduceLT, Zv, Ya, tup, tyf]
    refine hN7 [(0, v), (2, nv), (3, Zy d), (4, .bool false), (5, Zy (n : Nat)), (18, Zy (n : Nat)), (19, Zy (j : Nat))] _ _ ?_ (by simp (maxSteps := 2000000) only [↓Za, ↓Zk, ↓Zs, ↓Ze, ↓Zj, ↓Zt, ↓Zg, ↓Zm, ↓Zf, ↓Zc, ↓Zb, ↓vdn, vup, Zo, Zh, Zi, Zn, Zl, List.map_cons, List.map_nil, cond_true, cond_false, aop, Zw, Zr, Zp, ev, sput, Zu, Zz, Yb, unK, Zd, Zx, Nat.reduceBEq, Nat.reduceAdd, Int.reduceBEq, Int.reduceBNe, Int.reduceLT, Zv, Ya, tup, tyf])
    clear hN7
    try clear N7
    refine Yf fun B hB => ?_
    refine Ym ?_
    refine Yc fun N8 hN8 => ?_
    simp (maxSteps := 2000000) only [s86, ↓Za, ↓Zk, ↓Zs, ↓Ze, ↓Zj, ↓Zt, ↓Zg, ↓Zm, ↓Zf, ↓Zc, ↓Zb, ↓vdn, vup, Zo, Zh, Zi, Zn, Zl, List.map_cons, List.map_nil, cond_true, cond_false, aop, Zw, Zr, Zp, ev, sput, Zu, Zz, Yb, unK, Zd, Zx, Nat.reduceBEq, Nat.reduceAdd, Int.reduceBEq, Int.reduceBNe, Int.reduceLT, Zv, Ya, tup, tyf]
    refine hN8 [(0, v), (2, nv), (3, Zy d), (4, .bool false), (5, Zy (n : Nat)), (6, Zy (j : Nat)), (18, Zy (n : Nat)), (19, Zy (j : Nat))] _ _ ?_ (by simp (maxSteps := 2000000) only [↓Za, ↓Zk, ↓Zs, ↓Ze, ↓Zj, ↓Zt, ↓Zg, ↓Zm, ↓Zf, ↓Zc, ↓Zb, ↓vdn, vup, Zo, Zh, Zi, Zn, Zl, List.map_cons, List.map_nil, cond_true, cond_false, aop, Zw, Zr, Zp, ev, sput, Zu, Zz, Yb, unK, Zd, Zx, Nat.reduceBEq, Nat.reduceAdd, Int.reduceBEq, Int.reduceBNe, Int.reduceLT, Zv, Ya, tup, tyf])
    clear hN8
    try clear N8
    refine Yc fun N9 hN9 => ?_
    simp (maxSteps := 2000000) only [s86, ↓Za, ↓Zk, ↓Zs, ↓Ze, ↓Zj, ↓Zt, ↓Zg, ↓Zm, ↓Zf, ↓Zc, ↓Zb, ↓vdn, vup, Zo, Zh, Zi, Zn, Zl, List.map_cons, List.map_nil, cond_true, cond_false, aop, Zw, Zr, Zp, ev, sput, Zu, Zz, Yb, unK, Zd, Zx, Nat.reduceBEq, Nat.reduceAdd, Int.reduceBEq, Int.reduceBNe, Int.reduceLT, Zv, Ya, tup, tyf]
    refine hN9 [(0, v), (2, nv), (3, Zy d), (4, .bool false), (5, Zy (n : Nat)), (6, Zy (j : Nat)), (7, .slice none 0 0), (18, Zy (n : Nat)), (19, Zy (j : Nat))] _ _ ?_ (by simp (maxSteps := 2000000) only [↓Za, ↓Zk, ↓Zs, ↓Ze, ↓Zj, ↓Zt, ↓Zg, ↓Zm, ↓Zf, ↓Zc, ↓Zb, ↓vdn, vup, Zo, Zh, Zi, Zn, Zl, List.map_cons, List.map_nil, cond_true, cond_false, aop, Zw, Zr, Zp, ev, sput, Zu, Zz, Yb, unK, Zd, Zx, Nat.reduceBEq, Nat.reduceAdd, Int.reduceBEq, Int.reduceBNe, Int.reduceLT, Zv, Ya, tup, tyf])
    clear hN9
    try clear N9
    refine Yf fun A hA => ?_
    refine Yc fun N10 hN10 => ?_
    simp (maxSteps := 2000000) only [s86, ↓Za, ↓Zk, ↓Zs, ↓Ze, ↓Zj, ↓Zt, ↓Zg, ↓Zm, ↓Zf, ↓Zc, ↓Zb, ↓vdn, vup, Zo, Zh, Zi, Zn, Zl, List.map_cons, List.map_nil, cond_true, cond_false, aop, Zw, Zr, Zp, ev, sput, Zu, Zz, Yb, unK, Zd, Zx, Nat.reduceBEq, Nat.reduceAdd, Int.reduceBEq, Int.reduceBNe, Int.reduceLT, Zv, Ya, tup, tyf, w1.len, hwl]
    refine hN10 [(0, v), (2, nv), (3, Zy d), (4, .bool false), (5, Zy (n : Nat)), (6, Zy (j : Nat)), (7, .slice none 0 0), (18, Zy (n : Nat)), (19, Zy (j : Nat)), (22, v), (23, Zy (n : Nat)), (24, .int .i64 0)] _ _ ?_ (by simp (maxSteps := 2000000) only [↓Za, ↓Zk, ↓Zs, ↓Ze, ↓Zj, ↓Zt, ↓Zg, ↓Zm, ↓Zf, ↓Zc, ↓Zb, ↓vdn, vup, Zo, Zh, Zi, Zn, Zl, List.map_cons, List.map_nil, cond_true, cond_false, aop, Zw, Zr, Zp, ev, sput, Zu, Zz, Yb, unK, Zd, Zx, Nat.reduceBEq, Nat.reduceAdd, Int.reduceBEq, Int.reduceBNe, Int.reduceLT, Zv, Ya, tup, tyf])
    clear hN10
    try clear N10
    refine Ym ?_
    refine Yg fun Qa hQa => ?_
    refine Xu (γ := Nat × Value × Yd) (fun g => g.1 ≤ n ∧ OwnL 22 3 g.2.2 g.2.1 ((s.take g.1).map (Bq.putR n j)) ∧ Ext (fun _ => False) H g.2.2 ∧ ∀ b, Yq g.2.1 = some b → H.length ≤ b)
      (fun g => ([(0, v), (2, nv), (3, Zy d), (4, .bool false), (5, Zy (n : Nat)), (6, Zy (j : Nat)), (7, g.2.1), (18, Zy (n : Nat)), (19, Zy (j : Nat)), (22, v), (23, Zy (n : Nat)), (24, Zy (g.1 : Nat))], g.2.2)) (fun g => n - g.1) (0, .slice none 0 0, H) ⟨Nat.zero_le _, OwnL.nil, Ext.refl _ _, fun b hb => by cases hb⟩ (by simp (maxSteps := 2000000) only [↓Za, ↓Zk, ↓Zs, ↓Ze, ↓Zj, ↓Zt, ↓Zg, ↓Zm, ↓Zf, ↓Zc, ↓Zb, ↓vdn, vup, Zo, Zh, Zi, Zn, Zl, List.map_cons, List.map_nil, cond_true, cond_false, aop, Zw, Zr, Zp, ev, sput, Zu, Zz, Yb, unK, Zd, Zx, Nat.reduceBEq, Nat.reduceAdd, Int.reduceBEq, Int.reduceBNe, Int.reduceLT, Zv, Ya, tup, tyf, Int.natCast_zero]) rfl ?_
    rintro ⟨k, cv, G⟩ ⟨hk, hcv, hEG, hcb⟩
    simp only at hk hcv hEG hcb
    refine Yg fun Qb hQb => ?_
    simp only [l86_0]
    by_cases hkn : (k : Int) < n
    · have hk' : k < n := by omega
      have hkW : k < ws.length := by omega
      have hkS : k < s.length := by omega
      have hEh : Ext (fun _ => False) h G := hE.trans hEG
      obtain ⟨w, hwd⟩ : ∃ w, w = ws.getD k undef := ⟨_, rfl⟩
      have hw : IntSl G w (s.getD k []) := by
        have := w2.get undef [] hkS
        rw [← hwd] at this
        exact this.same fun b hb => hEh.2 b (this.lt hb) id
      have e2 : s.getD k [] = s[k]'hkS := by rw [List.getD, List.getElem?_eq_getElem]; rfl
      have hrl : (s.getD k []).length = n + 1 := by rw [e2]; exact (hr _ (List.getElem_mem hkS)).1
      have hjr : j < (s.getD k []).length := by omega
      have hnr : n < (s.getD k []).length := by omega
      have hnx : (s.take (k + 1)).map (Bq.putR n j) = (s.take k).map (Bq.putR n j) ++ [Bq.putR n j (s.getD k [])] := by
        rw [List.take_succ, List.getElem?_eq_getElem hkS, Option.toList_some, List.map_append, List.map_singleton, e2]
      refine Yc fun N11 hN11 => ?_
      simp (maxSteps := 2000000) only [s86, ↓Za, ↓Zk, ↓Zs, ↓Ze, ↓Zj, ↓Zt, ↓Zg, ↓Zm, ↓Zf, ↓Zc, ↓Zb, ↓vdn, vup, Zo, Zh, Zi, Zn, Zl, List.map_cons, List.map_nil, cond_true, cond_false, aop, Zw, Zr, Zp, ev, sput, Zu, Zz, Yb, unK, Zd, Zx, Nat.reduceBEq, Nat.reduceAdd, Int.reduceBEq, Int.reduceBNe, Int.reduceLT, Zv, Ya, tup, tyf, hkn]
      refine hN11 [(0, v), (2, nv), (3, Zy d), (4, .bool false), (5, Zy (n : Nat)), (6, Zy (j : Nat)), (7, cv), (18, Zy (n : Nat)), (19, Zy (j : Nat)), (22, v), (23, Zy (n : Nat)), (24, Zy (k : Nat)), (25, .bool true)] _ _ ?_ (by simp (maxSteps := 2000000) only [↓Za, ↓Zk, ↓Zs, ↓Ze, ↓Zj, ↓Zt, ↓Zg, ↓Zm, ↓Zf, ↓Zc, ↓Zb, ↓vdn, vup, Zo, Zh, Zi, Zn, Zl, List.map_cons, List.map_nil, cond_true, cond_false, aop, Zw, Zr, Zp, ev, sput, Zu, Zz, Yb, unK, Zd, Zx, Nat.reduceBEq, Nat.reduceAdd, Int.reduceBEq, Int.reduceBNe, Int.reduceLT, Zv, Ya, tup, tyf])
      clear hN11
      try clear N11
      refine Yc fun N12 hN12 => ?_
      simp (maxSteps := 2000000) only [s86, ↓Za, ↓Zk, ↓Zs, ↓Ze, ↓Zj, ↓Zt, ↓Zg, ↓Zm, ↓Zf, ↓Zc, ↓Zb, ↓vdn, vup, Zo, Zh, Zi, Zn, Zl, List.map_cons, List.map_nil, cond_true, cond_false, aop, Zw, Zr, Zp, ev, sput, Zu, Zz, Yb, unK, Zd, Zx, Nat.reduceBEq, Nat.reduceAdd, Int.reduceBEq, Int.reduceBNe, Int.reduceLT, Zv, Ya, tup, tyf]
      refine hN12 [(0, v), (2, nv), (3, Zy d), (4, .bool false), (5, Zy (n : Nat)), (6, Zy (j : Nat)), (7, cv), (18, Zy (n : Nat)), (19, Zy (j : Nat)), (22, v), (23, Zy (n : Nat)), (24, Zy (k : Nat))] _ _ ?_ (by simp (maxSteps := 2000000) only [↓Za, ↓Zk, ↓Zs, ↓Ze, ↓Zj, ↓Zt, ↓Zg, ↓Zm, ↓Zf, ↓Zc, ↓Zb, ↓vdn, vup, Zo, Zh, Zi, Zn, Zl, List.map_cons, List.map_nil, cond_true, cond_false, aop, Zw, Zr, Zp, ev, sput, Zu, Zz, Yb, unK, Zd, Zx, Nat.reduceBEq, Nat.reduceAdd, Int.reduceBEq, Int.reduceBNe, Int.reduceLT, Zv, Ya, tup, tyf])
      clear hN12
      try clear N12
      refine Yf fun D hD => ?_
      refine Ym ?_
      refine Yc fun N13 hN13 => ?_
      simp (maxSteps := 2000000) only [s86, ↓Za, ↓Zk, ↓Zs, ↓Ze, ↓Zj, ↓Zt, ↓Zg, ↓Zm, ↓Zf, ↓Zc, ↓Zb, ↓vdn, vup, Zo, Zh, Zi, Zn, Zl, List.map_cons, List.map_nil, cond_true, cond_false, aop, Zw, Zr, Zp, ev, sput, Zu, Zz, Yb, unK, Zd, Zx, Nat.reduceBEq, Nat.reduceAdd, Int.reduceBEq, Int.reduceBNe, Int.reduceLT, Zv, Ya, tup, tyf, w1.idx el_84 esz_22 hkW, (w1.ext hEh).load shp_22 hkW, ← hwd]
      refine hN13 [(0, v), (2, nv), (3, Zy d), (4, .bool false), (5, Zy (n : Nat)), (6, Zy (j : Nat)), (7, cv), (9, w), (18, Zy (n : Nat)), (19, Zy (j : Nat)), (22, v), (23, Zy (n : Nat)), (24, Zy (k : Nat))] _ _ ?_ (by simp (maxSteps := 2000000) only [↓Za, ↓Zk, ↓Zs, ↓Ze, ↓Zj, ↓Zt, ↓Zg, ↓Zm, ↓Zf, ↓Zc, ↓Zb, ↓vdn, vup, Zo, Zh, Zi, Zn, Zl, List.map_cons, List.map_nil, cond_true, cond_false, aop, Zw, Zr, Zp, ev, sput, Zu, Zz, Yb, unK, Zd, Zx, Nat.reduceBEq, Nat.reduceAdd, Int.reduceBEq, Int.reduceBNe, Int.reduceLT, Zv, Ya, tup, tyf])
      clear hN13
      try clear N13
      refine Yc fun N14 hN14 => ?_
      simp (maxSteps := 2000000) only [s86, ↓Za, ↓Zk, ↓Zs, ↓Ze, ↓Zj, ↓Zt, ↓Zg, ↓Zm, ↓Zf, ↓Zc, ↓Zb, ↓vdn, vup, Zo, Zh, Zi, Zn, Zl, List.map_cons, List.map_nil, cond_true, cond_false, aop, Zw, Zr, Zp, ev, sput, Zu, Zz, Yb, unK, Zd, Zx, Nat.reduceBEq, Nat.reduceAdd, Int.reduceBEq, Int.reduceBNe, Int.reduceLT, Zv, Ya, tup, tyf, Yv, List.nil_append, List.append_nil, List.toList_toArray, List.cons_append]
      refine (clone_rsi hw (fun hc => by rw [hc] at hrl; simp at hrl) (by omega)).mono ?_
      rintro r G1 hr1
      refine hN14 [(0, v), (2, nv), (3, Zy d), (4, .bool false), (5, Zy (n : Nat)), (6, Zy (j : Nat)), (7, cv), (9, r), (18, Zy (n : Nat)), (19, Zy (j : Nat)), (22, v), (23, Zy (n : Nat)), (24, Zy (k : Nat))] _ _ ?_ (by simp (maxSteps := 2000000) only [↓Za, ↓Zk, ↓Zs, ↓Ze, ↓Zj, ↓Zt, ↓Zg, ↓Zm, ↓Zf, ↓Zc, ↓Zb, ↓vdn, vup, Zo, Zh, Zi, Zn, Zl, List.map_cons, List.map_nil, cond_true, cond_false, aop, Zw, Zr, Zp, ev, sput, Zu, Zz, Yb, unK, Zd, Zx, Nat.reduceBEq, Nat.reduceAdd, Int.reduceBEq, Int.reduceBNe, Int.reduceLT, Zv, Ya, tup, tyf])
      clear hN14
      try clear N14
      have hE1 := hr1.2.1
      refine Yc fun N15 hN15 => ?_
      simp (maxSteps := 2000000) only [s86, ↓Za, ↓Zk, ↓Zs, ↓Ze, ↓Zj, ↓Zt, ↓Zg, ↓Zm, ↓Zf, ↓Zc, ↓Zb, ↓vdn, vup, Zo, Zh, Zi, Zn, Zl, List.map_cons, List.map_nil, cond_true, cond_false, aop, Zw, Zr, Zp, ev, sput, Zu, Zz, Yb, unK, Zd, Zx, Nat.reduceBEq, Nat.reduceAdd, Int.reduceBEq, Int.reduceBNe, Int.reduceLT, Zv, Ya, tup, tyf, hr1.1.int.idx We Xk hnr, hr1.1.int.load Xj hnr, hr1.1.int.idx We Xk hjr]
      refine ownSl_store hr1.1 hjr fun G2 hr2 hE2 => ?_
      have hEG2 : Ext (fun _ => False) G G2 := ext_own hE1 hr1.2.2 hE2
      refine hN15 [(0, v), (2, nv), (3, Zy d), (4, .bool false), (5, Zy (n : Nat)), (6, Zy (j : Nat)), (7, cv), (9, r), (18, Zy (n : Nat)), (19, Zy (j : Nat)), (22, v), (23, Zy (n : Nat)), (24, Zy (k : Nat))] _ _ ?_ (by simp (maxSteps := 2000000) only [↓Za, ↓Zk, ↓Zs, ↓Ze, ↓Zj, ↓Zt, ↓Zg, ↓Zm, ↓Zf, ↓Zc, ↓Zb, ↓vdn, vup, Zo, Zh, Zi, Zn, Zl, List.map_cons, List.map_nil, cond_true, cond_false, aop, Zw, Zr, Zp, ev, sput, Zu, Zz, Yb, unK, Zd, Zx, Nat.reduceBEq, Nat.reduceAdd, Int.reduceBEq, Int.reduceBNe, Int.reduceLT, Zv, Ya, tup, tyf])
      clear hN15
      try clear N15
      have hr2' : OwnSl 3 G2 r (Bq.putR n j (s.getD k [])) := hr2
      refine Ye ?_
      simp (maxSteps := 2000000) only [s86, ↓Za, ↓Zk, ↓Zs, ↓Ze, ↓Zj, ↓Zt, ↓Zg, ↓Zm, ↓Zf, ↓Zc, ↓Zb, ↓vdn, vup, Zo, Zh, Zi, Zn, Zl, List.map_cons, List.map_nil, cond_true, cond_false, aop, Zw, Zr, Zp, ev, sput, Zu, Zz, Yb, unK, Zd, Zx, Nat.reduceBEq, Nat.reduceAdd, Int.reduceBEq, Int.reduceBNe, Int.reduceLT, Zv, Ya, tup, tyf, List.map_toArray, buildSl1 el_84 zero_22 esz_22 hr2']
      have hval : ValSl (G2 ++ [Blk.cells [r] 22 false]) (.slice (some ⟨G2.length, 0, none⟩) 1 1) [r] := .inr ⟨G2.length, 0, none, 1, [r], 22, false, rfl, Nat.le_refl _, by simp [view, Blk.view], rfl⟩
      have hEa : Ext (fun _ => False) G2 (G2 ++ [Blk.cells [r] 22 false]) := Ext.app _ _ _
      refine OwnL.app ((hcv.ext hEG2).ext hEa) app_84_84 hval (OwnL.single hr2') (by rw [List.length_map, List.length_take, List.length_singleton]; omega) fun cv' G3 ho3 hE3 hb3 => ?_
      rw [← hnx] at ho3
      have hEG3 : Ext (fun _ => False) H G3 := ext_own ((hEG.trans hEG2).trans hEa) hcb hE3
      have hcb' : ∀ b, Yq cv' = some b → H.length ≤ b := fun b hb => by
        rcases hb3 with h1 | ⟨b', h1, h2⟩
        · exact hcb b (h1 ▸ hb)
        · rw [h1] at hb; cases hb
          rw [List.length_append] at h2
          have := (hEG.trans hEG2).1; omega
      refine hD [(0, v), (2, nv), (3, Zy d), (4, .bool false), (5, Zy (n : Nat)), (6, Zy (j : Nat)), (7, cv'), (18, Zy (n : Nat)), (19, Zy (j : Nat)), (22, v), (23, Zy (n : Nat)), (24, Zy (k : Nat))] _ _ ?_ (by simp (maxSteps := 2000000) only [↓Za, ↓Zk, ↓Zs, ↓Ze, ↓Zj, ↓Zt, ↓Zg, ↓Zm, ↓Zf, ↓Zc, ↓Zb, ↓vdn, vup, Zo, Zh, Zi, Zn, Zl, List.map_cons, List.map_nil, cond_true, cond_false, aop, Zw, Zr, Zp, ev, sput, Zu, Zz, Yb, unK, Zd, Zx, Nat.reduceBEq, Nat.reduceAdd, Int.reduceBEq, Int.reduceBNe, Int.reduceLT, Zv, Ya, tup, tyf])
      clear hD
      try clear D
      refine Ye ?_
      simp (maxSteps := 2000000) only [s86, ↓Za, ↓Zk, ↓Zs, ↓Ze, ↓Zj, ↓Zt, ↓Zg, ↓Zm, ↓Zf, ↓Zc, ↓Zb, ↓vdn, vup, Zo, Zh, Zi, Zn, Zl, List.map_cons, List.map_nil, cond_true, cond_false, aop, Zw, Zr, Zp, ev, sput, Zu, Zz, Yb, unK, Zd, Zx, Nat.reduceBEq, Nat.reduceAdd, Int.reduceBEq, Int.reduceBNe, Int.reduceLT, Zv, Ya, tup, tyf, add1 (show k < 9223372036854775807 by omega)]
      exact hQb _ _ _ ⟨(k + 1, cv', G3), ⟨hk', ho3, hEG3, hcb'⟩, by simp only; omega, by simp (maxSteps := 2000000) only [↓Za, ↓Zk, ↓Zs, ↓Ze, ↓Zj, ↓Zt, ↓Zg, ↓Zm, ↓Zf, ↓Zc, ↓Zb, ↓vdn, vup, Zo, Zh, Zi, Zn, Zl, List.map_cons, List.map_nil, cond_true, cond_false, aop, Zw, Zr, Zp, ev, sput, Zu, Zz, Yb, unK, Zd, Zx, Nat.reduceBEq, Nat.reduceAdd, Int.reduceBEq, Int.reduceBNe, Int.reduceLT, Zv, Ya, tup, tyf], rfl⟩
    obtain rfl : n = k := by omega
    refine Yc fun N16 hN16 => ?_
    simp (maxSteps := 2000000) only [s86, ↓Za, ↓Zk, ↓Zs, ↓Ze, ↓Zj, ↓Zt, ↓Zg, ↓Zm, ↓Zf, ↓Zc, ↓Zb, ↓vdn, vup, Zo, Zh, Zi, Zn, Zl, List.map_cons, List.map_nil, cond_true, cond_false, aop, Zw, Zr, Zp, ev, sput, Zu, Zz, Yb, unK, Zd, Zx, Nat.reduceBEq, Nat.reduceAdd, Int.reduceBEq, Int.reduceBNe, Int.reduceLT, Zv, Ya, tup, tyf, hkn]
    refine hN16 [(0, v), (2, nv), (3, Zy d), (4, .bool false), (5, Zy (n : Nat)), (6, Zy (j : Nat)), (7, cv), (18, Zy (n : Nat)), (19, Zy (j : Nat)), (22, v), (23, Zy (n : Nat)), (24, Zy (n : Nat)), (25, .bool false)] _ _ ?_ (by simp (maxSteps := 2000000) only [↓Za, ↓Zk, ↓Zs, ↓Ze, ↓Zj, ↓Zt, ↓Zg, ↓Zm, ↓Zf, ↓Zc, ↓Zb, ↓vdn, vup, Zo, Zh, Zi, Zn, Zl, List.map_cons, List.map_nil, cond_true, cond_false, aop, Zw, Zr, Zp, ev, sput, Zu, Zz, Yb, unK, Zd, Zx, Nat.reduceBEq, Nat.reduceAdd, Int.reduceBEq, Int.reduceBNe, Int.reduceLT, Zv, Ya, tup, tyf])
    clear hN16
    try clear N16
    refine Yc fun N17 hN17 => ?_
    simp (maxSteps := 2000000) only [s86, ↓Za, ↓Zk, ↓Zs, ↓Ze, ↓Zj, ↓Zt, ↓Zg, ↓Zm, ↓Zf, ↓Zc, ↓Zb, ↓vdn, vup, Zo, Zh, Zi, Zn, Zl, List.map_cons, List.map_nil, cond_true, cond_false, aop, Zw, Zr, Zp, ev, sput, Zu, Zz, Yb, unK, Zd, Zx, Nat.reduceBEq, Nat.reduceAdd, Int.reduceBEq, Int.reduceBNe, Int.reduceLT, Zv, Ya, tup, tyf]
    refine hQb _ _ _ (hQa _ _ _ ?_)
    simp (maxSteps := 2000000) only [s86, ↓Za, ↓Zk, ↓Zs, ↓Ze, ↓Zj, ↓Zt, ↓Zg, ↓Zm, ↓Zf, ↓Zc, ↓Zb, ↓vdn, vup, Zo, Zh, Zi, Zn, Zl, List.map_cons, List.map_nil, cond_true, cond_false, aop, Zw, Zr, Zp, ev, sput, Zu, Zz, Yb, unK, Zd, Zx, Nat.reduceBEq, Nat.reduceAdd, Int.reduceBEq, Int.reduceBNe, Int.reduceLT, Zv, Ya, tup, tyf, if_true]
    rw [← hl, List.take_length, hl] at hcv
    refine hA [(0, v), (2, nv), (3, Zy d), (4, .bool false), (5, Zy (n : Nat)), (6, Zy (j : Nat)), (7, cv), (18, Zy (n : Nat)), (19, Zy (j : Nat))] _ _ ?_ (by simp (maxSteps := 2000000) only [↓Za, ↓Zk, ↓Zs, ↓Ze, ↓Zj, ↓Zt, ↓Zg, ↓Zm, ↓Zf, ↓Zc, ↓Zb, ↓vdn, vup, Zo, Zh, Zi, Zn, Zl, List.map_cons, List.map_nil, cond_true, cond_false, aop, Zw, Zr, Zp, ev, sput, Zu, Zz, Yb, unK, Zd, Zx, Nat.reduceBEq, Nat.reduceAdd, Int.reduceBEq, Int.reduceBNe, Int.reduceLT, Zv, Ya, tup, tyf])
    clear hA
    try clear A
    clear hQa hQb
    refine Ye ?_
    have hdj := det_call n (h := G) (v := cv) (s := s.map (Bq.putR n j)) h6 (hpm j hj').1 (hpm j hj').2 (rowsI_of hcv)
    simp (maxSteps := 2000000) only [s86, ↓Za, ↓Zk, ↓Zs, ↓Ze, ↓Zj, ↓Zt, ↓Zg, ↓Zm, ↓Zf, ↓Zc, ↓Zb, ↓vdn, vup, Zo, Zh, Zi, Zn, Zl, List.map_cons, List.map_nil, cond_true, cond_false, aop, Zw, Zr, Zp, ev, sput, Zu, Zz, Yb, unK, Zd, Zx, Nat.reduceBEq, Nat.reduceAdd, Int.reduceBEq, Int.reduceBNe, Int.reduceLT, Zv, Ya, tup, tyf, Yv, List.nil_append, List.append_nil, List.toList_toArray, List.cons_append]
    refine (hdj).mono ?_
    rintro _ G ⟨rfl, rfl⟩
    simp (maxSteps := 2000000) only [s86, ↓Za, ↓Zk, ↓Zs, ↓Ze, ↓Zj, ↓Zt, ↓Zg, ↓Zm, ↓Zf, ↓Zc, ↓Zb, ↓vdn, vup, Zo, Zh, Zi, Zn, Zl, List.map_cons, List.map_nil, cond_true, cond_false, aop, Zw, Zr, Zp, ev, sput, Zu, Zz, Yb, unK, Zd, Zx, Nat.reduceBEq, Nat.reduceAdd, Int.reduceBEq, Int.reduceBNe, Int.reduceLT, Zv, Ya, tup, tyf, List.map_toArray, litI1]
    refine (hnv.ext hEG).push (by rw [numT_len]; omega) fun nv' G' hnv' => ?_
    rw [← numT_succ] at hnv'
    refine hB [(0, v), (2, nv'), (3, Zy d), (4, .bool false), (5, Zy (n : Nat)), (18, Zy (n : Nat)), (19, Zy (j : Nat))] _ _ ?_ (by simp (maxSteps := 2000000) only [↓Za, ↓Zk, ↓Zs, ↓Ze, ↓Zj, ↓Zt, ↓Zg, ↓Zm, ↓Zf, ↓Zc, ↓Zb, ↓vdn, vup, Zo, Zh, Zi, Zn, Zl, List.map_cons, List.map_nil, cond_true, cond_false, aop, Zw, Zr, Zp, ev, sput, Zu, Zz, Yb, unK, Zd, Zx, Nat.reduceBEq, Nat.reduceAdd, Int.reduceBEq, Int.reduceBNe, Int.reduceLT, Zv, Ya, tup, tyf])
    clear hB
    try clear B
    refine Ye ?_
    simp (maxSteps := 2000000) only [s86, ↓Za, ↓Zk, ↓Zs, ↓Ze, ↓Zj, ↓Zt, ↓Zg, ↓Zm, ↓Zf, ↓Zc, ↓Zb, ↓vdn, vup, Zo, Zh, Zi, Zn, Zl, List.map_cons, List.map_nil, cond_true, cond_false, aop, Zw, Zr, Zp, ev, sput, Zu, Zz, Yb, unK, Zd, Zx, Nat.reduceBEq, Nat.reduceAdd, Int.reduceBEq, Int.reduceBNe, Int.reduceLT, Zv, Ya, tup, tyf, add1 (show j < 9223372036854775807 by omega)]
    exact hQ2 _ _ _ ⟨(j + 1, nv', G'), ⟨hj', hnv'⟩, by simp only; omega, by simp (maxSteps := 2000000) only [↓Za, ↓Zk, ↓Zs, ↓Ze, ↓Zj, ↓Zt, ↓Zg, ↓Zm, ↓Zf, ↓Zc, ↓Zb, ↓vdn, vup, Zo, Zh, Zi, Zn, Zl, List.map_cons, List.map_nil, cond_true, cond_false, aop, Zw, Zr, Zp, ev, sput, Zu, Zz, Yb, unK, Zd, Zx, Nat.reduceBEq, Nat.reduceAdd, Int.reduceBEq, Int.reduceBNe, Int.reduceLT, Zv, Ya, tup, tyf], rfl⟩
  obtain rfl : n = j := by omega
  refine Yc fun N18 hN18 => ?_
  simp (maxSteps := 2000000) only [s86, ↓Za, ↓Zk, ↓Zs, ↓Ze, ↓Zj, ↓Zt, ↓Zg, ↓Zm, ↓Zf, ↓Zc, ↓Zb, ↓vdn, vup, Zo, Zh, Zi, Zn, Zl, List.map_cons, List.map_nil, cond_true, cond_false, aop, Zw, Zr, Zp, ev, sput, Zu, Zz, Yb, unK, Zd, Zx, Nat.reduceBEq, Nat.reduceAdd, Int.reduceBEq, Int.reduceBNe, Int.reduceLT, Zv, Ya, tup, tyf, hjn]
  refine hN18 [(0, v), (2, nv), (3, Zy d), (4, .bool false), (5, Zy (n : Nat)), (18, Zy (n : Nat)), (19, Zy (n : Nat)), (20, .bool false)] _ _ ?_ (by simp (maxSteps := 2000000) only [↓Za, ↓Zk, ↓Zs, ↓Ze, ↓Zj, ↓Zt, ↓Zg, ↓Zm, ↓Zf, ↓Zc, ↓Zb, ↓vdn, vup, Zo, Zh, Zi, Zn, Zl, List.map_cons, List.map_nil, cond_true, cond_false, aop, Zw, Zr, Zp, ev, sput, Zu, Zz, Yb, unK, Zd, Zx, Nat.reduceBEq, Nat.reduceAdd, Int.reduceBEq, Int.reduceBNe, Int.reduceLT, Zv, Ya, tup, tyf])
  clear hN18
  try clear N18
  refine Yc fun N19 hN19 => ?_
  simp (maxSteps := 2000000) only [s86, ↓Za, ↓Zk, ↓Zs, ↓Ze, ↓Zj, ↓Zt, ↓Zg, ↓Zm, ↓Zf, ↓Zc, ↓Zb, ↓vdn, vup, Zo, Zh, Zi, Zn, Zl, List.map_cons, List.map_nil, cond_true, cond_false, aop, Zw, Zr, Zp, ev, sput, Zu, Zz, Yb, unK, Zd, Zx, Nat.reduceBEq, Nat.reduceAdd, Int.reduceBEq, Int.reduceBNe, Int.reduceLT, Zv, Ya, tup, tyf]
  refine hQ2 _ _ _ (hQ _ _ _ ?_)
  simp (maxSteps := 2000000) only [s86, ↓Za, ↓Zk, ↓Zs, ↓Ze, ↓Zj, ↓Zt, ↓Zg, ↓Zm, ↓Zf, ↓Zc, ↓Zb, ↓vdn, vup, Zo, Zh, Zi, Zn, Zl, List.map_cons, List.map_nil, cond_true, cond_false, aop, Zw, Zr, Zp, ev, sput, Zu, Zz, Yb, unK, Zd, Zx, Nat.reduceBEq, Nat.reduceAdd, Int.reduceBEq, Int.reduceBNe, Int.reduceLT, Zv, Ya, tup, tyf, if_true]
  refine hZ [(0, v), (2, nv), (3, Zy d), (4, .bool false), (5, Zy (n : Nat))] _ _ ?_ (by simp (maxSteps := 2000000) only [↓Za, ↓Zk, ↓Zs, ↓Ze, ↓Zj, ↓Zt, ↓Zg, ↓Zm, ↓Zf, ↓Zc, ↓Zb, ↓vdn, vup, Zo, Zh, Zi, Zn, Zl, List.map_cons, List.map_nil, cond_true, cond_false, aop, Zw, Zr, Zp, ev, sput, Zu, Zz, Yb, unK, Zd, Zx, Nat.reduceBEq, Nat.reduceAdd, Int.reduceBEq, Int.reduceBNe, Int.reduceLT, Zv, Ya, tup, tyf])
  clear hZ
  try clear Z
  clear hQ hQ2
  have hEH := hnv.2.1
  have hdne : Bq.pdet n s ≠ 0 := fun h => hd0 (hd ▸ h)
  by_cases hneg : d < 0
  · have hsg : subV .i64 0 d = - d := by rw [subV_id (by omega) (by omega)]; omega
    have hnl : numL n s = (numT n s n).map (- ·) := by rw [numL, if_pos (by rw [hd]; exact hneg)]
    have hna : ((d.natAbs : Nat) : Int) = - d := by omega
    refine Yf fun M hM => ?_
    refine Yc fun N20 hN20 => ?_
    simp (maxSteps := 2000000) only [s86, ↓Za, ↓Zk, ↓Zs, ↓Ze, ↓Zj, ↓Zt, ↓Zg, ↓Zm, ↓Zf, ↓Zc, ↓Zb, ↓vdn, vup, Zo, Zh, Zi, Zn, Zl, List.map_cons, List.map_nil, cond_true, cond_false, aop, Zw, Zr, Zp, ev, sput, Zu, Zz, Yb, unK, Zd, Zx, Nat.reduceBEq, Nat.reduceAdd, Int.reduceBEq, Int.reduceBNe, Int.reduceLT, Zv, Ya, tup, tyf, hneg]
    refine hN20 [(0, v), (2, nv), (3, Zy d), (4, .bool false), (5, Zy (n : Nat)), (50, .bool true)] _ _ ?_ (by simp (maxSteps := 2000000) only [↓Za, ↓Zk, ↓Zs, ↓Ze, ↓Zj, ↓Zt, ↓Zg, ↓Zm, ↓Zf, ↓Zc, ↓Zb, ↓vdn, vup, Zo, Zh, Zi, Zn, Zl, List.map_cons, List.map_nil, cond_true, cond_false, aop, Zw, Zr, Zp, ev, sput, Zu, Zz, Yb, unK, Zd, Zx, Nat.reduceBEq, Nat.reduceAdd, Int.reduceBEq, Int.reduceBNe, Int.reduceLT, Zv, Ya, tup, tyf])
    clear hN20
    try clear N20
    refine Xm rfl ?_
    refine Yc fun N21 hN21 => ?_
    simp (maxSteps := 2000000) only [s86, ↓Za, ↓Zk, ↓Zs, ↓Ze, ↓Zj, ↓Zt, ↓Zg, ↓Zm, ↓Zf, ↓Zc, ↓Zb, ↓vdn, vup, Zo, Zh, Zi, Zn, Zl, List.map_cons, List.map_nil, cond_true, cond_false, aop, Zw, Zr, Zp, ev, sput, Zu, Zz, Yb, unK, Zd, Zx, Nat.reduceBEq, Nat.reduceAdd, Int.reduceBEq, Int.reduceBNe, Int.reduceLT, Zv, Ya, tup, tyf, hsg]
    refine hN21 [(0, v), (2, nv), (3, Zy (-d)), (4, .bool false), (5, Zy (n : Nat)), (50, .bool true)] _ _ ?_ (by simp (maxSteps := 2000000) only [↓Za, ↓Zk, ↓Zs, ↓Ze, ↓Zj, ↓Zt, ↓Zg, ↓Zm, ↓Zf, ↓Zc, ↓Zb, ↓vdn, vup, Zo, Zh, Zi, Zn, Zl, List.map_cons, List.map_nil, cond_true, cond_false, aop, Zw, Zr, Zp, ev, sput, Zu, Zz, Yb, unK, Zd, Zx, Nat.reduceBEq, Nat.reduceAdd, Int.reduceBEq, Int.reduceBNe, Int.reduceLT, Zv, Ya, tup, tyf])
    clear hN21
    try clear N21
    refine Yc fun N22 hN22 => ?_
    simp (maxSteps := 2000000) only [s86, ↓Za, ↓Zk, ↓Zs, ↓Ze, ↓Zj, ↓Zt, ↓Zg, ↓Zm, ↓Zf, ↓Zc, ↓Zb, ↓vdn, vup, Zo, Zh, Zi, Zn, Zl, List.map_cons, List.map_nil, cond_true, cond_false, aop, Zw, Zr, Zp, ev, sput, Zu, Zz, Yb, unK, Zd, Zx, Nat.reduceBEq, Nat.reduceAdd, Int.reduceBEq, Int.reduceBNe, Int.reduceLT, Zv, Ya, tup, tyf, hnv.1.int.len, numT_len]
    refine hN22 [(0, v), (2, nv), (3, Zy (-d)), (4, .bool false), (5, Zy (n : Nat)), (50, .bool true), (53, nv), (54, Zy (n : Nat)), (55, .int .i64 0)] _ _ ?_ (by simp (maxSteps := 2000000) only [↓Za, ↓Zk, ↓Zs, ↓Ze, ↓Zj, ↓Zt, ↓Zg, ↓Zm, ↓Zf, ↓Zc, ↓Zb, ↓vdn, vup, Zo, Zh, Zi, Zn, Zl, List.map_cons, List.map_nil, cond_true, cond_false, aop, Zw, Zr, Zp, ev, sput, Zu, Zz, Yb, unK, Zd, Zx, Nat.reduceBEq, Nat.reduceAdd, Int.reduceBEq, Int.reduceBNe, Int.reduceLT, Zv, Ya, tup, tyf])
    clear hN22
    try clear N22
    refine Ym ?_
    refine Yg fun Q hQ => ?_
    refine Xu (γ := Nat × Yd) (fun g => g.1 ≤ n ∧ OwnSl 3 g.2 nv (ngT (numT n s n) g.1) ∧ Ext (fun _ => False) h g.2)
      (fun g => ([(0, v), (2, nv), (3, Zy (-d)), (4, .bool false), (5, Zy (n : Nat)), (50, .bool true), (53, nv), (54, Zy (n : Nat)), (55, Zy (g.1 : Nat))], g.2)) (fun g => n - g.1) (0, H) ⟨Nat.zero_le _, by simp only [ngT, List.take_zero, List.map_nil, List.nil_append, List.drop_zero]; exact hnv.1, hEH⟩ (by simp (maxSteps := 2000000) only [↓Za, ↓Zk, ↓Zs, ↓Ze, ↓Zj, ↓Zt, ↓Zg, ↓Zm, ↓Zf, ↓Zc, ↓Zb, ↓vdn, vup, Zo, Zh, Zi, Zn, Zl, List.map_cons, List.map_nil, cond_true, cond_false, aop, Zw, Zr, Zp, ev, sput, Zu, Zz, Yb, unK, Zd, Zx, Nat.reduceBEq, Nat.reduceAdd, Int.reduceBEq, Int.reduceBNe, Int.reduceLT, Zv, Ya, tup, tyf, Int.natCast_zero]) rfl ?_
    rintro ⟨k, G⟩ ⟨hk, ho, hEG⟩
    simp only at hk ho hEG
    refine Yg fun Q2 hQ2 => ?_
    simp only [l86_2]
    by_cases hkn : (k : Int) < n
    · have hk' : k < n := by omega
      have hkT : k < (numT n s n).length := by rw [numT_len]; exact hk'
      have hkN : k < (ngT (numT n s n) k).length := by rw [ngT_len]; exact hkT
      have hb1 := habs k hk'
      have hsg2 : subV .i64 0 (Bq.pdet n (s.map (Bq.putR n k))) = - Bq.pdet n (s.map (Bq.putR n k)) := by rw [subV_id (by omega) (by omega)]; omega
      have hset := ngT_set hkT
      rw [numT_get hk'] at hset
      refine Yc fun N23 hN23 => ?_
      simp (maxSteps := 2000000) only [s86, ↓Za, ↓Zk, ↓Zs, ↓Ze, ↓Zj, ↓Zt, ↓Zg, ↓Zm, ↓Zf, ↓Zc, ↓Zb, ↓vdn, vup, Zo, Zh, Zi, Zn, Zl, List.map_cons, List.map_nil, cond_true, cond_false, aop, Zw, Zr, Zp, ev, sput, Zu, Zz, Yb, unK, Zd, Zx, Nat.reduceBEq, Nat.reduceAdd, Int.reduceBEq, Int.reduceBNe, Int.reduceLT, Zv, Ya, tup, tyf, hkn]
      refine hN23 [(0, v), (2, nv), (3, Zy (-d)), (4, .bool false), (5, Zy (n : Nat)), (50, .bool true), (53, nv), (54, Zy (n : Nat)), (55, Zy (k : Nat)), (56, .bool true)] _ _ ?_ (by simp (maxSteps := 2000000) only [↓Za, ↓Zk, ↓Zs, ↓Ze, ↓Zj, ↓Zt, ↓Zg, ↓Zm, ↓Zf, ↓Zc, ↓Zb, ↓vdn, vup, Zo, Zh, Zi, Zn, Zl, List.map_cons, List.map_nil, cond_true, cond_false, aop, Zw, Zr, Zp, ev, sput, Zu, Zz, Yb, unK, Zd, Zx, Nat.reduceBEq, Nat.reduceAdd, Int.reduceBEq, Int.reduceBNe, Int.reduceLT, Zv, Ya, tup, tyf])
      clear hN23
      try clear N23
      refine Yc fun N24 hN24 => ?_
      simp (maxSteps := 2000000) only [s86, ↓Za, ↓Zk, ↓Zs, ↓Ze, ↓Zj, ↓Zt, ↓Zg, ↓Zm, ↓Zf, ↓Zc, ↓Zb, ↓vdn, vup, Zo, Zh, Zi, Zn, Zl, List.map_cons, List.map_nil, cond_true, cond_false, aop, Zw, Zr, Zp, ev, sput, Zu, Zz, Yb, unK, Zd, Zx, Nat.reduceBEq, Nat.reduceAdd, Int.reduceBEq, Int.reduceBNe, Int.reduceLT, Zv, Ya, tup, tyf]
      refine hN24 [(0, v), (2, nv), (3, Zy (-d)), (4, .bool false), (5, Zy (n : Nat)), (50, .bool true), (53, nv), (54, Zy (n : Nat)), (55, Zy (k : Nat))] _ _ ?_ (by simp (maxSteps := 2000000) only [↓Za, ↓Zk, ↓Zs, ↓Ze, ↓Zj, ↓Zt, ↓Zg, ↓Zm, ↓Zf, ↓Zc, ↓Zb, ↓vdn, vup, Zo, Zh, Zi, Zn, Zl, List.map_cons, List.map_nil, cond_true, cond_false, aop, Zw, Zr, Zp, ev, sput, Zu, Zz, Yb, unK, Zd, Zx, Nat.reduceBEq, Nat.reduceAdd, Int.reduceBEq, Int.reduceBNe, Int.reduceLT, Zv, Ya, tup, tyf])
      clear hN24
      try clear N24
      refine Yf fun B hB => ?_
      refine Ym ?_
      refine Yc fun N25 hN25 => ?_
      simp (maxSteps := 2000000) only [s86, ↓Za, ↓Zk, ↓Zs, ↓Ze, ↓Zj, ↓Zt, ↓Zg, ↓Zm, ↓Zf, ↓Zc, ↓Zb, ↓vdn, vup, Zo, Zh, Zi, Zn, Zl, List.map_cons, List.map_nil, cond_true, cond_false, aop, Zw, Zr, Zp, ev, sput, Zu, Zz, Yb, unK, Zd, Zx, Nat.reduceBEq, Nat.reduceAdd, Int.reduceBEq, Int.reduceBNe, Int.reduceLT, Zv, Ya, tup, tyf]
      refine hN25 [(0, v), (2, nv), (3, Zy (-d)), (4, .bool false), (5, Zy (n : Nat)), (10, Zy (k : Nat)), (50, .bool true), (53, nv), (54, Zy (n : Nat)), (55, Zy (k : Nat))] _ _ ?_ (by simp (maxSteps := 2000000) only [↓Za, ↓Zk, ↓Zs, ↓Ze, ↓Zj, ↓Zt, ↓Zg, ↓Zm, ↓Zf, ↓Zc, ↓Zb, ↓vdn, vup, Zo, Zh, Zi, Zn, Zl, List.map_cons, List.map_nil, cond_true, cond_false, aop, Zw, Zr, Zp, ev, sput, Zu, Zz, Yb, unK, Zd, Zx, Nat.reduceBEq, Nat.reduceAdd, Int.reduceBEq, Int.reduceBNe, Int.reduceLT, Zv, Ya, tup, tyf])
      clear hN25
      try clear N25
      refine Ye ?_
      simp (maxSteps := 2000000) only [s86, ↓Za, ↓Zk, ↓Zs, ↓Ze, ↓Zj, ↓Zt, ↓Zg, ↓Zm, ↓Zf, ↓Zc, ↓Zb, ↓vdn, vup, Zo, Zh, Zi, Zn, Zl, List.map_cons, List.map_nil, cond_true, cond_false, aop, Zw, Zr, Zp, ev, sput, Zu, Zz, Yb, unK, Zd, Zx, Nat.reduceBEq, Nat.reduceAdd, Int.reduceBEq, Int.reduceBNe, Int.reduceLT, Zv, Ya, tup, tyf, ho.int.idx We Xk hkN, ho.int.load Xj hkN, ngT_get hkT, numT_get hk', hsg2]
      refine ownSl_store ho hkN fun G2 ho2 hE2 => ?_
      rw [hset] at ho2
      refine hB [(0, v), (2, nv), (3, Zy (-d)), (4, .bool false), (5, Zy (n : Nat)), (50, .bool true), (53, nv), (54, Zy (n : Nat)), (55, Zy (k : Nat))] _ _ ?_ (by simp (maxSteps := 2000000) only [↓Za, ↓Zk, ↓Zs, ↓Ze, ↓Zj, ↓Zt, ↓Zg, ↓Zm, ↓Zf, ↓Zc, ↓Zb, ↓vdn, vup, Zo, Zh, Zi, Zn, Zl, List.map_cons, List.map_nil, cond_true, cond_false, aop, Zw, Zr, Zp, ev, sput, Zu, Zz, Yb, unK, Zd, Zx, Nat.reduceBEq, Nat.reduceAdd, Int.reduceBEq, Int.reduceBNe, Int.reduceLT, Zv, Ya, tup, tyf])
      clear hB
      try clear B
      refine Ye ?_
      simp (maxSteps := 2000000) only [s86, ↓Za, ↓Zk, ↓Zs, ↓Ze, ↓Zj, ↓Zt, ↓Zg, ↓Zm, ↓Zf, ↓Zc, ↓Zb, ↓vdn, vup, Zo, Zh, Zi, Zn, Zl, List.map_cons, List.map_nil, cond_true, cond_false, aop, Zw, Zr, Zp, ev, sput, Zu, Zz, Yb, unK, Zd, Zx, Nat.reduceBEq, Nat.reduceAdd, Int.reduceBEq, Int.reduceBNe, Int.reduceLT, Zv, Ya, tup, tyf, add1 (show k < 9223372036854775807 by omega)]
      exact hQ2 _ _ _ ⟨(k + 1, G2), ⟨hk', ho2, ext_own hEG hnv.2.2 hE2⟩, by simp only; omega, by simp (maxSteps := 2000000) only [↓Za, ↓Zk, ↓Zs, ↓Ze, ↓Zj, ↓Zt, ↓Zg, ↓Zm, ↓Zf, ↓Zc, ↓Zb, ↓vdn, vup, Zo, Zh, Zi, Zn, Zl, List.map_cons, List.map_nil, cond_true, cond_false, aop, Zw, Zr, Zp, ev, sput, Zu, Zz, Yb, unK, Zd, Zx, Nat.reduceBEq, Nat.reduceAdd, Int.reduceBEq, Int.reduceBNe, Int.reduceLT, Zv, Ya, tup, tyf], rfl⟩
    obtain rfl : n = k := by omega
    refine Yc fun N26 hN26 => ?_
    simp (maxSteps := 2000000) only [s86, ↓Za, ↓Zk, ↓Zs, ↓Ze, ↓Zj, ↓Zt, ↓Zg, ↓Zm, ↓Zf, ↓Zc, ↓Zb, ↓vdn, vup, Zo, Zh, Zi, Zn, Zl, List.map_cons, List.map_nil, cond_true, cond_false, aop, Zw, Zr, Zp, ev, sput, Zu, Zz, Yb, unK, Zd, Zx, Nat.reduceBEq, Nat.reduceAdd, Int.reduceBEq, Int.reduceBNe, Int.reduceLT, Zv, Ya, tup, tyf, hkn]
    refine hN26 [(0, v), (2, nv), (3, Zy (-d)), (4, .bool false), (5, Zy (n : Nat)), (50, .bool true), (53, nv), (54, Zy (n : Nat)), (55, Zy (n : Nat)), (56, .bool false)] _ _ ?_ (by simp (maxSteps := 2000000) only [↓Za, ↓Zk, ↓Zs, ↓Ze, ↓Zj, ↓Zt, ↓Zg, ↓Zm, ↓Zf, ↓Zc, ↓Zb, ↓vdn, vup, Zo, Zh, Zi, Zn, Zl, List.map_cons, List.map_nil, cond_true, cond_false, aop, Zw, Zr, Zp, ev, sput, Zu, Zz, Yb, unK, Zd, Zx, Nat.reduceBEq, Nat.reduceAdd, Int.reduceBEq, Int.reduceBNe, Int.reduceLT, Zv, Ya, tup, tyf])
    clear hN26
    try clear N26
    refine Yc fun N27 hN27 => ?_
    simp (maxSteps := 2000000) only [s86, ↓Za, ↓Zk, ↓Zs, ↓Ze, ↓Zj, ↓Zt, ↓Zg, ↓Zm, ↓Zf, ↓Zc, ↓Zb, ↓vdn, vup, Zo, Zh, Zi, Zn, Zl, List.map_cons, List.map_nil, cond_true, cond_false, aop, Zw, Zr, Zp, ev, sput, Zu, Zz, Yb, unK, Zd, Zx, Nat.reduceBEq, Nat.reduceAdd, Int.reduceBEq, Int.reduceBNe, Int.reduceLT, Zv, Ya, tup, tyf]
    refine hQ2 _ _ _ (hQ _ _ _ ?_)
    simp (maxSteps := 2000000) only [s86, ↓Za, ↓Zk, ↓Zs, ↓Ze, ↓Zj, ↓Zt, ↓Zg, ↓Zm, ↓Zf, ↓Zc, ↓Zb, ↓vdn, vup, Zo, Zh, Zi, Zn, Zl, List.map_cons, List.map_nil, cond_true, cond_false, aop, Zw, Zr, Zp, ev, sput, Zu, Zz, Yb, unK, Zd, Zx, Nat.reduceBEq, Nat.reduceAdd, Int.reduceBEq, Int.reduceBNe, Int.reduceLT, Zv, Ya, tup, tyf, if_true]
    have hall : ngT (numT n s n) n = numL n s := by
      rw [hnl, ngT, List.take_of_length_le (by rw [numT_len]; exact Nat.le_refl _), List.drop_eq_nil_of_le (by rw [numT_len]; exact Nat.le_refl _), List.append_nil]
    rw [hall] at ho
    refine hM [(0, v), (2, nv), (3, Zy (-d)), (4, .bool false), (5, Zy (n : Nat))] _ _ ?_ (by simp (maxSteps := 2000000) only [↓Za, ↓Zk, ↓Zs, ↓Ze, ↓Zj, ↓Zt, ↓Zg, ↓Zm, ↓Zf, ↓Zc, ↓Zb, ↓vdn, vup, Zo, Zh, Zi, Zn, Zl, List.map_cons, List.map_nil, cond_true, cond_false, aop, Zw, Zr, Zp, ev, sput, Zu, Zz, Yb, unK, Zd, Zx, Nat.reduceBEq, Nat.reduceAdd, Int.reduceBEq, Int.reduceBNe, Int.reduceLT, Zv, Ya, tup, tyf])
    clear hM
    try clear M
    refine Ye ?_
    simp (maxSteps := 2000000) only [s86, ↓Za, ↓Zk, ↓Zs, ↓Ze, ↓Zj, ↓Zt, ↓Zg, ↓Zm, ↓Zf, ↓Zc, ↓Zb, ↓vdn, vup, Zo, Zh, Zi, Zn, Zl, List.map_cons, List.map_nil, cond_true, cond_false, aop, Zw, Zr, Zp, ev, sput, Zu, Zz, Yb, unK, Zd, Zx, Nat.reduceBEq, Nat.reduceAdd, Int.reduceBEq, Int.reduceBNe, Int.reduceLT, Zv, Ya, tup, tyf]
    refine ⟨hEG, ?_⟩
    rw [if_neg hdne, hd, hna]
    exact ⟨nv, rfl, ho.int⟩
  · have hna : ((d.natAbs : Nat) : Int) = d := by omega
    refine Yf fun M hM => ?_
    refine Yc fun N28 hN28 => ?_
    simp (maxSteps := 2000000) only [s86, ↓Za, ↓Zk, ↓Zs, ↓Ze, ↓Zj, ↓Zt, ↓Zg, ↓Zm, ↓Zf, ↓Zc, ↓Zb, ↓vdn, vup, Zo, Zh, Zi, Zn, Zl, List.map_cons, List.map_nil, cond_true, cond_false, aop, Zw, Zr, Zp, ev, sput, Zu, Zz, Yb, unK, Zd, Zx, Nat.reduceBEq, Nat.reduceAdd, Int.reduceBEq, Int.reduceBNe, Int.reduceLT, Zv, Ya, tup, tyf, hneg]
    refine hN28 [(0, v), (2, nv), (3, Zy d), (4, .bool false), (5, Zy (n : Nat)), (50, .bool false)] _ _ ?_ (by simp (maxSteps := 2000000) only [↓Za, ↓Zk, ↓Zs, ↓Ze, ↓Zj, ↓Zt, ↓Zg, ↓Zm, ↓Zf, ↓Zc, ↓Zb, ↓vdn, vup, Zo, Zh, Zi, Zn, Zl, List.map_cons, List.map_nil, cond_true, cond_false, aop, Zw, Zr, Zp, ev, sput, Zu, Zz, Yb, unK, Zd, Zx, Nat.reduceBEq, Nat.reduceAdd, Int.reduceBEq, Int.reduceBNe, Int.reduceLT, Zv, Ya, tup, tyf])
    clear hN28
    try clear N28
    refine Yy rfl ?_
    refine Ye ?_
    simp (maxSteps := 2000000) only [s86, ↓Za, ↓Zk, ↓Zs, ↓Ze, ↓Zj, ↓Zt, ↓Zg, ↓Zm, ↓Zf, ↓Zc, ↓Zb, ↓vdn, vup, Zo, Zh, Zi, Zn, Zl, List.map_cons, List.map_nil, cond_true, cond_false, aop, Zw, Zr, Zp, ev, sput, Zu, Zz, Yb, unK, Zd, Zx, Nat.reduceBEq, Nat.reduceAdd, Int.reduceBEq, Int.reduceBNe, Int.reduceLT, Zv, Ya, tup, tyf]
    refine hM [(0, v), (2, nv), (3, Zy d), (4, .bool false), (5, Zy (n : Nat))] _ _ ?_ (by simp (maxSteps := 2000000) only [↓Za, ↓Zk, ↓Zs, ↓Ze, ↓Zj, ↓Zt, ↓Zg, ↓Zm, ↓Zf, ↓Zc, ↓Zb, ↓vdn, vup, Zo, Zh, Zi, Zn, Zl, List.map_cons, List.map_nil, cond_true, cond_false, aop, Zw, Zr, Zp, ev, sput, Zu, Zz, Yb, unK, Zd, Zx, Nat.reduceBEq, Nat.reduceAdd, Int.reduceBEq, Int.reduceBNe, Int.reduceLT, Zv, Ya, tup, tyf])
    clear hM
    try clear M
    refine Ye ?_
    simp (maxSteps := 2000000) only [s86, ↓Za, ↓Zk, ↓Zs, ↓Ze, ↓Zj, ↓Zt, ↓Zg, ↓Zm, ↓Zf, ↓Zc, ↓Zb, ↓vdn, vup, Zo, Zh, Zi, Zn, Zl, List.map_cons, List.map_nil, cond_true, cond_false, aop, Zw, Zr, Zp, ev, sput, Zu, Zz, Yb, unK, Zd, Zx, Nat.reduceBEq, Nat.reduceAdd, Int.reduceBEq, Int.reduceBNe, Int.reduceLT, Zv, Ya, tup, tyf]
    refine ⟨hEH, ?_⟩
    rw [if_neg hdne, hd, hna, numL, if_neg (by rw [hd]; exact hneg)]
    exact ⟨nv, rfl, hnv.1.int⟩
end Go.Proofs.Tryd.Am

namespace Go.Proofs.Tryd.Am
open Go.Am Bq
set_option maxRecDepth 100000
set_option maxHeartbeats 1000000

theorem set_new (h : Yd) (A B : Blk) : (h ++ [A]).set h.length B = h ++ [B] := by
  rw [List.set_append_right _ _ (Nat.le_refl _)]; simp
def frV (x y : Int) : Value := .agg #[Zy x, Zy y]
def qV (q : Rat) : Value := frV q.num q.den
theorem low_frV (x y : Int) : Low (frV x y) := .agg fun w hw => by
  simp at hw; rcases hw with rfl | rfl <;> exact .int _ _
theorem loadF {h : Yd} {b : Nat} {x y : Int} {e : TypeId} {ro : Bool} {K : Value → Prop} (hb : h[b]? = some (.cells [Zy x, Zy y] e ro)) : Xs prog h 44 (.pointer (some ⟨b, 0, none⟩)) K = K (.agg #[Zy x, Zy y]) :=
  loadA hb (by rw [shp_44]; rfl)
theorem loadF0 {h : Yd} {b : Nat} {x y : Int} {e : TypeId} {ro : Bool} {K : Value → Prop} (hb : h[b]? = some (.cells [Zy x, Zy y] e ro)) : Xs prog h 3 (.pointer (some ⟨b, 0, none⟩)) K = K (Zy x) := loadC hb Xj rfl
theorem loadF1 {h : Yd} {b : Nat} {x y : Int} {e : TypeId} {ro : Bool} {K : Value → Prop} (hb : h[b]? = some (.cells [Zy x, Zy y] e ro)) : Xs prog h 3 (.pointer (some ⟨b, 1, none⟩)) K = K (Zy y) := loadC hb Xj rfl
theorem storeF {h : Yd} {b : Nat} {x y : Int} {e : TypeId} {c : List Value} {K : Yd → Prop} (hb : h[b]? = some (.cells c e false)) (hc : c.length = 2) : Xp prog h 44 (.pointer (some ⟨b, 0, none⟩)) (.agg #[Zy x, Zy y]) K = K (h.set b (.cells [Zy x, Zy y] e false)) :=
  storeA (vs := [Zy x, Zy y]) hb (by rw [shp_44]; rfl) rfl (by rw [hc]; rfl)
theorem bldF {x y : Int} {K : Value → Prop} : buildK prog 44 [(0, Zy x), (1, Zy y)] K = K (.agg #[Zy x, Zy y]) := by
  simp [buildK, Vl, fillL, pl_44_0, pl_44_1, Vh, cellsOf, Yp]
theorem bldF0 {K : Value → Prop} : buildK prog 44 [] K = K (.agg #[Zy 0, Zy 0]) := by
  simp [buildK, Vl, fillL, pl_44_0]
theorem boxF {h : Yd} {x y : Int} {K : Value → Yd → Prop} : boxK prog h 44 (.agg #[Zy x, Zy y]) K = K (Xv h) (h ++ [.cells [Zy x, Zy y] 44 false]) := by
  simp [boxK, esz_44, Xv, cellsOf]
theorem fA0 {b : Nat} {K : Value → Prop} : Xt prog 44 (.pointer (some ⟨b, 0, none⟩)) 0 K = K (.pointer (some ⟨b, 0, none⟩)) := fldA fld_44_0 Xk
theorem fA1 {b : Nat} {K : Value → Prop} : Xt prog 44 (.pointer (some ⟨b, 0, none⟩)) 1 K = K (.pointer (some ⟨b, 1, none⟩)) := fldA fld_44_1 Xk
theorem quo_dvd {x y : Int} (hx : x.natAbs < 9223372036854775808) (hd : y ∣ x) : quoV .i64 x y = x / y := by
  rw [quoV, Int.tdiv_eq_ediv_of_dvd hd]
  have h1 : (x / y).natAbs ≤ x.natAbs := by
    obtain ⟨t, rfl⟩ := hd
    rcases Int.lt_trichotomy y 0 with h | h | h
    · rw [Int.mul_ediv_cancel_left _ (by omega), Int.natAbs_mul]; exact Nat.le_mul_of_pos_left _ (by omega)
    · subst h; simp
    · rw [Int.mul_ediv_cancel_left _ (by omega), Int.natAbs_mul]; exact Nat.le_mul_of_pos_left _ (by omega)
  exact wrap_id (by omega) (by omega)
theorem tmod_abs (x : Int) {y : Int} (hy : y ≠ 0) : (x.tmod y).natAbs < y.natAbs := by
  rw [Int.natAbs_tmod]; exact Nat.mod_lt _ (by omega)
theorem gcd_tmod (x y : Int) : Nat.gcd y.natAbs (x.tmod y).natAbs = Nat.gcd x.natAbs y.natAbs := by
  rw [Int.natAbs_tmod, Nat.gcd_comm y.natAbs, ← Nat.gcd_rec, Nat.gcd_comm]
theorem max_abs {x : Int} (hx : x.natAbs < 9223372036854775808) : (if subV .i64 0 x > x then subV .i64 0 x else x) = (x.natAbs : Int) := by
  rw [subV_id (by omega) (by omega)]; split <;> omega

theorem gcd_call [Tabs prog] {h : Yd} {a b : Int} (ha : a.natAbs < 9223372036854775808 ∨ b ≠ 0) (hb2 : b.natAbs < 9223372036854775808) : APure prog 90 [Zy a, Zy b] h (Zy (Nat.gcd a.natAbs b.natAbs : Nat)) := by
  refine s90_call (by simp) ?_
  simp only [s90]
  simp (maxSteps := 2000000) only [s90, ↓Za, ↓Zk, ↓Zs, ↓Ze, ↓Zj, ↓Zt, ↓Zg, ↓Zm, ↓Zf, ↓Zc, ↓Zb, ↓vdn, vup, Zo, Zh, Zi, Zn, Zl, List.map_cons, List.map_nil, cond_true, cond_false, aop, Zw, Zr, Zp, ev, sput, Zu, Zz, Yb, unK, Zd, Zx, Nat.reduceBEq, Nat.reduceAdd, Int.reduceBEq, Int.reduceBNe, Int.reduceLT, Zv, Ya, tup, tyf, ↓Xc]
  refine Yg fun Q hQ => ?_
  refine Wp (γ := Int × Int) (fun s => Nat.gcd s.1.natAbs s.2.natAbs = Nat.gcd a.natAbs b.natAbs ∧ (s.1.natAbs < 9223372036854775808 ∨ s.2 ≠ 0) ∧ s.2.natAbs < 9223372036854775808)
    (fun s => ([(0, Zy s.1), (1, Zy s.2), (4, .int .i64 0)], h)) (fun s => s.2.natAbs) (a, b) ⟨rfl, ha, hb2⟩ (by simp (maxSteps := 2000000) only [↓Za, ↓Zk, ↓Zs, ↓Ze, ↓Zj, ↓Zt, ↓Zg, ↓Zm, ↓Zf, ↓Zc, ↓Zb, ↓vdn, vup, Zo, Zh, Zi, Zn, Zl, List.map_cons, List.map_nil, cond_true, cond_false, aop, Zw, Zr, Zp, ev, sput, Zu, Zz, Yb, unK, Zd, Zx, Nat.reduceBEq, Nat.reduceAdd, Int.reduceBEq, Int.reduceBNe, Int.reduceLT, Zv, Ya, tup, tyf]) rfl ?_
  rintro ⟨x, y⟩ ⟨hxy, hx, hy⟩
  simp only at hxy hx hy
  refine Wo fun Q2 hQ2 => ?_
  by_cases hy0 : y = 0
  · subst hy0
    have e0 : ((0 : Int) != 0) = false := rfl
    rw [Int.natAbs_zero, Nat.gcd_zero_right] at hxy
    have hx' : x.natAbs < 9223372036854775808 := hx.resolve_right (by simp)
    simp (maxSteps := 2000000) only [s90, ↓Za, ↓Zk, ↓Zs, ↓Ze, ↓Zj, ↓Zt, ↓Zg, ↓Zm, ↓Zf, ↓Zc, ↓Zb, ↓vdn, vup, Zo, Zh, Zi, Zn, Zl, List.map_cons, List.map_nil, cond_true, cond_false, aop, Zw, Zr, Zp, ev, sput, Zu, Zz, Yb, unK, Zd, Zx, Nat.reduceBEq, Nat.reduceAdd, Int.reduceBEq, Int.reduceBNe, Int.reduceLT, Zv, Ya, tup, tyf, l90_0, e0]
    refine hQ2 _ _ _ (hQ _ _ _ ?_)
    simp (maxSteps := 2000000) only [s90, ↓Za, ↓Zk, ↓Zs, ↓Ze, ↓Zj, ↓Zt, ↓Zg, ↓Zm, ↓Zf, ↓Zc, ↓Zb, ↓vdn, vup, Zo, Zh, Zi, Zn, Zl, List.map_cons, List.map_nil, cond_true, cond_false, aop, Zw, Zr, Zp, ev, sput, Zu, Zz, Yb, unK, Zd, Zx, Nat.reduceBEq, Nat.reduceAdd, Int.reduceBEq, Int.reduceBNe, Int.reduceLT, Zv, Ya, tup, tyf, if_true, mmK, max_abs hx', hxy]
  · have e0 : (y != 0) = true := by simpa using hy0
    simp (maxSteps := 2000000) only [s90, ↓Za, ↓Zk, ↓Zs, ↓Ze, ↓Zj, ↓Zt, ↓Zg, ↓Zm, ↓Zf, ↓Zc, ↓Zb, ↓vdn, vup, Zo, Zh, Zi, Zn, Zl, List.map_cons, List.map_nil, cond_true, cond_false, aop, Zw, Zr, Zp, ev, sput, Zu, Zz, Yb, unK, Zd, Zx, Nat.reduceBEq, Nat.reduceAdd, Int.reduceBEq, Int.reduceBNe, Int.reduceLT, Zv, Ya, tup, tyf, l90_0, e0]
    refine Wn [] (by kernel_rfl) (by kernel_rfl) (by kernel_rfl) (by kernel_rfl) ?_
    simp (maxSteps := 2000000) only [s90, ↓Za, ↓Zk, ↓Zs, ↓Ze, ↓Zj, ↓Zt, ↓Zg, ↓Zm, ↓Zf, ↓Zc, ↓Zb, ↓vdn, vup, Zo, Zh, Zi, Zn, Zl, List.map_cons, List.map_nil, cond_true, cond_false, aop, Zw, Zr, Zp, ev, sput, Zu, Zz, Yb, unK, Zd, Zx, Nat.reduceBEq, Nat.reduceAdd, Int.reduceBEq, Int.reduceBNe, Int.reduceLT, Zv, Ya, tup, tyf, ne_eq, hy0, not_false_eq_true]
    have hlt := tmod_abs x hy0
    exact hQ2 _ _ _ ⟨(y, x.tmod y), ⟨by simp only; rw [gcd_tmod, hxy], .inl hy, by simp only; omega⟩, hlt, by simp (maxSteps := 2000000) only [↓Za, ↓Zk, ↓Zs, ↓Ze, ↓Zj, ↓Zt, ↓Zg, ↓Zm, ↓Zf, ↓Zc, ↓Zb, ↓vdn, vup, Zo, Zh, Zi, Zn, Zl, List.map_cons, List.map_nil, cond_true, cond_false, aop, Zw, Zr, Zp, ev, sput, Zu, Zz, Yb, unK, Zd, Zx, Nat.reduceBEq, Nat.reduceAdd, Int.reduceBEq, Int.reduceBNe, Int.reduceLT, Zv, Ya, tup, tyf], rfl⟩

theorem terms {x : Int} {n : Nat} (hn : 0 < n) : x / ((Nat.gcd x.natAbs n : Nat) : Int) = (Rat.divInt x n).num ∧ ((n / Nat.gcd x.natAbs n : Nat) : Int) = (Rat.divInt x n).den := by
  rw [Rat.divInt_ofNat, Rat.num_mkRat, Rat.den_mkRat, if_neg (by omega), if_neg (by omega), Nat.gcd_comm n]
  exact ⟨rfl, rfl⟩
theorem gcd_dvd_int (x : Int) (n : Nat) : ((Nat.gcd x.natAbs n : Nat) : Int) ∣ x := Int.dvd_natAbs.1 (Int.natCast_dvd_natCast.2 (Nat.gcd_dvd_left _ _))

theorem s88_callW [Tabs Tryd.prog] {args : List Value} {h : Yd} {Q : Value → Yd → Prop} (hsz : args.length ≤ 22) (hk : AWS Tryd.prog 22 s88 (Zv Tryd.prog [.cell 4 44] Q) (Zp 0 args) h) : ACall Tryd.prog 88 args h Q :=
  Xq Tryd.func88 rfl (enters_of Tryd.func88 (by kernel_rfl) rfl) rfl rfl (by decide) s88_strip s88_ok hsz hk
theorem frac_call [Tabs prog] {h : Yd} {a b : Int} (hb : b ≠ 0) (ha : a.natAbs < 9223372036854775808) (hb2 : b.natAbs < 9223372036854775808) : APure prog 88 [Zy a, Zy b] h (qV (Rat.divInt a b)) := by
  have c0 := Xa h (Blk.cells [.int .i64 0, .int .i64 0] 44 false)
  have hE0 : Ext (fun _ => False) h (h ++ [Blk.cells [.int .i64 0, .int .i64 0] 44 false]) := Ext.app _ _ _
  obtain ⟨x, n, hn, hx, hn2, hq, hneg, hpos⟩ : ∃ (x : Int) (n : Nat), 0 < n ∧ x.natAbs < 9223372036854775808 ∧ n < 9223372036854775808 ∧ Rat.divInt x n = Rat.divInt a b ∧ (b < 0 → subV .i64 0 a = x ∧ subV .i64 0 b = n) ∧ (¬ b < 0 → a = x ∧ b = n) := by
    by_cases h0 : b < 0
    · refine ⟨-a, b.natAbs, by omega, by omega, hb2, ?_, fun _ => ⟨?_, ?_⟩, fun h => absurd h0 h⟩
      · rw [show ((b.natAbs : Nat) : Int) = -b by omega]; exact Rat.neg_divInt_neg a b
      · rw [subV_id (by omega) (by omega)]; omega
      · rw [subV_id (by omega) (by omega)]; omega
    · exact ⟨a, b.natAbs, by omega, ha, hb2, by rw [show ((b.natAbs : Nat) : Int) = b by omega], fun h => absurd h h0, fun _ => ⟨rfl, by omega⟩⟩
  refine ACall.forget (low_frV _ _) ?_
  refine s88_callW (by simp) ?_
  simp only [s88]
  refine Yc fun N1 hN1 => ?_
  simp (maxSteps := 2000000) only [s88, ↓Za, ↓Zk, ↓Zs, ↓Ze, ↓Zj, ↓Zt, ↓Zg, ↓Zm, ↓Zf, ↓Zc, ↓Zb, ↓vdn, vup, Zo, Zh, Zi, Zn, Zl, List.map_cons, List.map_nil, cond_true, cond_false, aop, Zw, Zr, Zp, ev, sput, Zu, Zz, Yb, unK, Zd, Zx, Nat.reduceBEq, Nat.reduceAdd, Int.reduceBEq, Int.reduceBNe, Int.reduceLT, Zv, Ya, tup, tyf, Wm, Xv, Vl]
  refine hN1 [(0, Zy a), (1, Zy b), (4, .pointer (some ⟨h.length, 0, none⟩))] _ _ ?_ (by simp (maxSteps := 2000000) only [↓Za, ↓Zk, ↓Zs, ↓Ze, ↓Zj, ↓Zt, ↓Zg, ↓Zm, ↓Zf, ↓Zc, ↓Zb, ↓vdn, vup, Zo, Zh, Zi, Zn, Zl, List.map_cons, List.map_nil, cond_true, cond_false, aop, Zw, Zr, Zp, ev, sput, Zu, Zz, Yb, unK, Zd, Zx, Nat.reduceBEq, Nat.reduceAdd, Int.reduceBEq, Int.reduceBNe, Int.reduceLT, Zv, Ya, tup, tyf])
  clear hN1
  try clear N1
  refine Yc fun M hM => ?_
  have key : ∀ e, ELe e [(0, Zy x), (1, Zy (n : Int)), (4, .pointer (some ⟨h.length, 0, none⟩))] → M e (h ++ [Blk.cells [.int .i64 0, .int .i64 0] 44 false]) := by
    intro e he
    refine hM [(0, Zy x), (1, Zy (n : Int)), (4, .pointer (some ⟨h.length, 0, none⟩))] _ _ ?_ he
    refine Yc fun N2 hN2 => ?_
    simp (maxSteps := 2000000) only [s88, ↓Za, ↓Zk, ↓Zs, ↓Ze, ↓Zj, ↓Zt, ↓Zg, ↓Zm, ↓Zf, ↓Zc, ↓Zb, ↓vdn, vup, Zo, Zh, Zi, Zn, Zl, List.map_cons, List.map_nil, cond_true, cond_false, aop, Zw, Zr, Zp, ev, sput, Zu, Zz, Yb, unK, Zd, Zx, Nat.reduceBEq, Nat.reduceAdd, Int.reduceBEq, Int.reduceBNe, Int.reduceLT, Zv, Ya, tup, tyf, Yv, List.nil_append, List.append_nil, List.toList_toArray, List.cons_append]
    refine (gcd_call (.inl hx) (by omega)).mono ?_
    rintro _ _ ⟨rfl, rfl⟩
    rw [Int.natAbs_natCast]
    refine hN2 [(0, Zy x), (1, Zy (n : Int)), (4, .pointer (some ⟨h.length, 0, none⟩)), (5, Zy (Nat.gcd x.natAbs n : Nat))] _ _ ?_ (by simp (maxSteps := 2000000) only [↓Za, ↓Zk, ↓Zs, ↓Ze, ↓Zj, ↓Zt, ↓Zg, ↓Zm, ↓Zf, ↓Zc, ↓Zb, ↓vdn, vup, Zo, Zh, Zi, Zn, Zl, List.map_cons, List.map_nil, cond_true, cond_false, aop, Zw, Zr, Zp, ev, sput, Zu, Zz, Yb, unK, Zd, Zx, Nat.reduceBEq, Nat.reduceAdd, Int.reduceBEq, Int.reduceBNe, Int.reduceLT, Zv, Ya, tup, tyf])
    clear hN2
    try clear N2
    have hg : ¬ ((Nat.gcd x.natAbs n : Nat) : Int) = 0 := by have := Nat.gcd_pos_of_pos_right x.natAbs hn; omega
    have q1 : quoV .i64 x ((Nat.gcd x.natAbs n : Nat) : Int) = (Rat.divInt a b).num := by rw [quo_dvd hx (gcd_dvd_int _ _), (terms hn).1, hq]
    have q2 : quoV .i64 (n : Int) ((Nat.gcd x.natAbs n : Nat) : Int) = (Rat.divInt a b).den := by
      rw [quo_dvd (by omega) (Int.natCast_dvd_natCast.2 (Nat.gcd_dvd_right _ _)), ← hq, ← (terms hn).2, Int.natCast_ediv]
    refine Ye ?_
    simp only [q88_4]
    refine aw_cut fun N hN => ?_
    refine Wn [] (by kernel_rfl) (by kernel_rfl) (by kernel_rfl) (by kernel_rfl) ?_
    simp (maxSteps := 2000000) only [s88, ↓Za, ↓Zk, ↓Zs, ↓Ze, ↓Zj, ↓Zt, ↓Zg, ↓Zm, ↓Zf, ↓Zc, ↓Zb, ↓vdn, vup, Zo, Zh, Zi, Zn, Zl, List.map_cons, List.map_nil, cond_true, cond_false, aop, Zw, Zr, Zp, ev, sput, Zu, Zz, Yb, unK, Zd, Zx, Nat.reduceBEq, Nat.reduceAdd, Int.reduceBEq, Int.reduceBNe, Int.reduceLT, Zv, Ya, tup, tyf, ne_eq, hg, not_false_eq_true, q1, q2, List.toList_toArray, bldF, storeF c0 rfl]
    refine hN _ _ ?_
    simp (maxSteps := 2000000) only [s88, ↓Za, ↓Zk, ↓Zs, ↓Ze, ↓Zj, ↓Zt, ↓Zg, ↓Zm, ↓Zf, ↓Zc, ↓Zb, ↓vdn, vup, Zo, Zh, Zi, Zn, Zl, List.map_cons, List.map_nil, cond_true, cond_false, aop, Zw, Zr, Zp, ev, sput, Zu, Zz, Yb, unK, Zd, Zx, Nat.reduceBEq, Nat.reduceAdd, Int.reduceBEq, Int.reduceBNe, Int.reduceLT, Zv, Ya, tup, tyf, loadF (get_set (h := h ++ [Blk.cells [.int .i64 0, .int .i64 0] 44 false]) (b := h.length) (by simp) _)]
    exact ⟨rfl, hE0.set_ge (Nat.le_refl _) _⟩
  by_cases hb0 : b < 0
  · simp (maxSteps := 2000000) only [s88, ↓Za, ↓Zk, ↓Zs, ↓Ze, ↓Zj, ↓Zt, ↓Zg, ↓Zm, ↓Zf, ↓Zc, ↓Zb, ↓vdn, vup, Zo, Zh, Zi, Zn, Zl, List.map_cons, List.map_nil, cond_true, cond_false, aop, Zw, Zr, Zp, ev, sput, Zu, Zz, Yb, unK, Zd, Zx, Nat.reduceBEq, Nat.reduceAdd, Int.reduceBEq, Int.reduceBNe, Int.reduceLT, Zv, Ya, tup, tyf, hb0, (hneg hb0).1, (hneg hb0).2]
    exact key _ (by simp (maxSteps := 2000000) only [↓Za, ↓Zk, ↓Zs, ↓Ze, ↓Zj, ↓Zt, ↓Zg, ↓Zm, ↓Zf, ↓Zc, ↓Zb, ↓vdn, vup, Zo, Zh, Zi, Zn, Zl, List.map_cons, List.map_nil, cond_true, cond_false, aop, Zw, Zr, Zp, ev, sput, Zu, Zz, Yb, unK, Zd, Zx, Nat.reduceBEq, Nat.reduceAdd, Int.reduceBEq, Int.reduceBNe, Int.reduceLT, Zv, Ya, tup, tyf])
  · simp (maxSteps := 2000000) only [s88, ↓Za, ↓Zk, ↓Zs, ↓Ze, ↓Zj, ↓Zt, ↓Zg, ↓Zm, ↓Zf, ↓Zc, ↓Zb, ↓vdn, vup, Zo, Zh, Zi, Zn, Zl, List.map_cons, List.map_nil, cond_true, cond_false, aop, Zw, Zr, Zp, ev, sput, Zu, Zz, Yb, unK, Zd, Zx, Nat.reduceBEq, Nat.reduceAdd, Int.reduceBEq, Int.reduceBNe, Int.reduceLT, Zv, Ya, tup, tyf, hb0]
    exact key _ (by simp (maxSteps := 2000000) only [↓Za, ↓Zk, ↓Zs, ↓Ze, ↓Zj, ↓Zt, ↓Zg, ↓Zm, ↓Zf, ↓Zc, ↓Zb, ↓vdn, vup, Zo, Zh, Zi, Zn, Zl, List.map_cons, List.map_nil, cond_true, cond_false, aop, Zw, Zr, Zp, ev, sput, Zu, Zz, Yb, unK, Zd, Zx, Nat.reduceBEq, Nat.reduceAdd, Int.reduceBEq, Int.reduceBNe, Int.reduceLT, Zv, Ya, tup, tyf, (hpos hb0).1, (hpos hb0).2])
theorem less_call [Tabs prog] {h : Yd} {a b c d : Int} (h1 : -9223372036854775808 ≤ a * d ∧ a * d < 9223372036854775808) (h2 : -9223372036854775808 ≤ c * b ∧ c * b < 9223372036854775808) : APure prog 66 [frV a b, frV c d] h (.bool (decide (a * d < c * b))) := by
  refine ACall.forget (.bool _) ?_
  have e1 := Vd (Xa h (Blk.cells [Zy a, Zy b] 44 false)) [Blk.cells [Zy c, Zy d] 44 false]
  have e2 := Xa (h ++ [Blk.cells [Zy a, Zy b] 44 false]) (Blk.cells [Zy c, Zy d] 44 false)
  have hE : Ext (fun _ => False) h (h ++ [Blk.cells [Zy a, Zy b] 44 false] ++ [Blk.cells [Zy c, Zy d] 44 false]) := (Ext.app _ _ _).trans (Ext.app _ _ _)
  refine s66_call (by simp) ?_
  simp only [s66, frV]
  simp (maxSteps := 2000000) only [s66, ↓Za, ↓Zk, ↓Zs, ↓Ze, ↓Zj, ↓Zt, ↓Zg, ↓Zm, ↓Zf, ↓Zc, ↓Zb, ↓vdn, vup, Zo, Zh, Zi, Zn, Zl, List.map_cons, List.map_nil, cond_true, cond_false, aop, Zw, Zr, Zp, ev, sput, Zu, Zz, Yb, unK, Zd, Zx, Nat.reduceBEq, Nat.reduceAdd, Int.reduceBEq, Int.reduceBNe, Int.reduceLT, Zv, Ya, tup, tyf, boxF, Xv, fA0, fA1, loadF0 e1, loadF1 e1, loadF0 e2, loadF1 e2, mulV_id h1.1 h1.2, mulV_id h2.1 h2.2]
  exact hE
end Go.Proofs.Tryd.Am

namespace Go.Proofs.Tryd.Am
open Go.Am
set_option maxRecDepth 100000
set_option maxHeartbeats 4000000

def idxF (p : Int → Bool) (xs : List Int) : Int := if xs.any p then ((xs.findIdx p : Nat) : Int) else -1
theorem s98_callW [Tabs Tryd.prog] {args : List Value} {h : Yd} {Q : Value → Yd → Prop} (hsz : args.length ≤ 19) (hk : AWS Tryd.prog 19 s98 (Zv Tryd.prog [.tmp 4] Q) (Zp 0 args) h) : ACall Tryd.prog 98 args h Q :=
  Xq Tryd.func98 rfl (enters_of Tryd.func98 (by kernel_rfl) rfl) rfl rfl (by decide) s98_strip s98_ok hsz hk
theorem index_call [Tabs prog] {h : Yd} {v : Value} {xs : List Int} {g : FuncId} {caps : Array Value} {p : Int → Bool} (hv : IntSl h v xs) (hl : xs.length < 9223372036854775807) (hp : ∀ x ∈ xs, APure prog g (Zy x :: caps.toList) h (.bool (p x))) :
    APure prog 98 [v, .func (.func g) #[] caps] h (Zy (idxF p xs)) := by
  refine s98_callW (by simp) ?_
  simp only [s98]
  refine Yc fun N1 hN1 => ?_
  simp (maxSteps := 2000000) only [s98, ↓Za, ↓Zk, ↓Zs, ↓Ze, ↓Zj, ↓Zt, ↓Zg, ↓Zm, ↓Zf, ↓Zc, ↓Zb, ↓vdn, vup, Zo, Zh, Zi, Zn, Zl, List.map_cons, List.map_nil, cond_true, cond_false, aop, Zw, Zr, Zp, ev, sput, Zu, Zz, Yb, unK, Zd, Zx, Nat.reduceBEq, Nat.reduceAdd, Int.reduceBEq, Int.reduceBNe, Int.reduceLT, Zv, Ya, tup, tyf]
  refine hN1 [(0, v), (1, .func (.func g) #[] caps), (4, .int .i64 0)] _ _ ?_ (by simp (maxSteps := 2000000) only [↓Za, ↓Zk, ↓Zs, ↓Ze, ↓Zj, ↓Zt, ↓Zg, ↓Zm, ↓Zf, ↓Zc, ↓Zb, ↓vdn, vup, Zo, Zh, Zi, Zn, Zl, List.map_cons, List.map_nil, cond_true, cond_false, aop, Zw, Zr, Zp, ev, sput, Zu, Zz, Yb, unK, Zd, Zx, Nat.reduceBEq, Nat.reduceAdd, Int.reduceBEq, Int.reduceBNe, Int.reduceLT, Zv, Ya, tup, tyf])
  clear hN1
  try clear N1
  refine Yf fun Z hZ => ?_
  refine Yc fun N2 hN2 => ?_
  simp (maxSteps := 2000000) only [s98, ↓Za, ↓Zk, ↓Zs, ↓Ze, ↓Zj, ↓Zt, ↓Zg, ↓Zm, ↓Zf, ↓Zc, ↓Zb, ↓vdn, vup, Zo, Zh, Zi, Zn, Zl, List.map_cons, List.map_nil, cond_true, cond_false, aop, Zw, Zr, Zp, ev, sput, Zu, Zz, Yb, unK, Zd, Zx, Nat.reduceBEq, Nat.reduceAdd, Int.reduceBEq, Int.reduceBNe, Int.reduceLT, Zv, Ya, tup, tyf, hv.len]
  refine hN2 [(0, v), (1, .func (.func g) #[] caps), (4, .int .i64 0), (6, v), (7, Zy xs.length), (8, .int .i64 0)] _ _ ?_ (by simp (maxSteps := 2000000) only [↓Za, ↓Zk, ↓Zs, ↓Ze, ↓Zj, ↓Zt, ↓Zg, ↓Zm, ↓Zf, ↓Zc, ↓Zb, ↓vdn, vup, Zo, Zh, Zi, Zn, Zl, List.map_cons, List.map_nil, cond_true, cond_false, aop, Zw, Zr, Zp, ev, sput, Zu, Zz, Yb, unK, Zd, Zx, Nat.reduceBEq, Nat.reduceAdd, Int.reduceBEq, Int.reduceBNe, Int.reduceLT, Zv, Ya, tup, tyf])
  clear hN2
  try clear N2
  refine Ym ?_
  refine Yg fun Q hQ => ?_
  refine Xu (γ := Nat) (fun i => i ≤ xs.length ∧ ∀ j, j < i → p (xs.getD j 0) = false) (fun i => ([(0, v), (1, .func (.func g) #[] caps), (4, .int .i64 0), (6, v), (7, Zy xs.length), (8, Zy (i : Nat))], h)) (fun i => xs.length - i) 0 ⟨Nat.zero_le _, fun j hj => absurd hj (Nat.not_lt_zero j)⟩ (by simp (maxSteps := 2000000) only [↓Za, ↓Zk, ↓Zs, ↓Ze, ↓Zj, ↓Zt, ↓Zg, ↓Zm, ↓Zf, ↓Zc, ↓Zb, ↓vdn, vup, Zo, Zh, Zi, Zn, Zl, List.map_cons, List.map_nil, cond_true, cond_false, aop, Zw, Zr, Zp, ev, sput, Zu, Zz, Yb, unK, Zd, Zx, Nat.reduceBEq, Nat.reduceAdd, Int.reduceBEq, Int.reduceBNe, Int.reduceLT, Zv, Ya, tup, tyf, Int.natCast_zero]) rfl ?_
  rintro i ⟨hi, hno⟩
  refine Yg fun Q2 hQ2 => ?_
  simp only [l98_0]
  by_cases hin : (i : Int) < xs.length
  · have hi' : i < xs.length := by omega
    have hx : xs.getD i 0 ∈ xs := by rw [List.getD, List.getElem?_eq_getElem hi']; exact List.getElem_mem hi'
    have hxe : xs.getD i 0 = xs[i] := by rw [List.getD, List.getElem?_eq_getElem hi']; rfl
    refine Yc fun N3 hN3 => ?_
    simp (maxSteps := 2000000) only [s98, ↓Za, ↓Zk, ↓Zs, ↓Ze, ↓Zj, ↓Zt, ↓Zg, ↓Zm, ↓Zf, ↓Zc, ↓Zb, ↓vdn, vup, Zo, Zh, Zi, Zn, Zl, List.map_cons, List.map_nil, cond_true, cond_false, aop, Zw, Zr, Zp, ev, sput, Zu, Zz, Yb, unK, Zd, Zx, Nat.reduceBEq, Nat.reduceAdd, Int.reduceBEq, Int.reduceBNe, Int.reduceLT, Zv, Ya, tup, tyf, hin]
    refine hN3 [(0, v), (1, .func (.func g) #[] caps), (4, .int .i64 0), (6, v), (7, Zy xs.length), (8, Zy (i : Nat)), (9, .bool true)] _ _ ?_ (by simp (maxSteps := 2000000) only [↓Za, ↓Zk, ↓Zs, ↓Ze, ↓Zj, ↓Zt, ↓Zg, ↓Zm, ↓Zf, ↓Zc, ↓Zb, ↓vdn, vup, Zo, Zh, Zi, Zn, Zl, List.map_cons, List.map_nil, cond_true, cond_false, aop, Zw, Zr, Zp, ev, sput, Zu, Zz, Yb, unK, Zd, Zx, Nat.reduceBEq, Nat.reduceAdd, Int.reduceBEq, Int.reduceBNe, Int.reduceLT, Zv, Ya, tup, tyf])
    clear hN3
    try clear N3
    refine Yc fun N4 hN4 => ?_
    simp (maxSteps := 2000000) only [s98, ↓Za, ↓Zk, ↓Zs, ↓Ze, ↓Zj, ↓Zt, ↓Zg, ↓Zm, ↓Zf, ↓Zc, ↓Zb, ↓vdn, vup, Zo, Zh, Zi, Zn, Zl, List.map_cons, List.map_nil, cond_true, cond_false, aop, Zw, Zr, Zp, ev, sput, Zu, Zz, Yb, unK, Zd, Zx, Nat.reduceBEq, Nat.reduceAdd, Int.reduceBEq, Int.reduceBNe, Int.reduceLT, Zv, Ya, tup, tyf]
    refine hN4 [(0, v), (1, .func (.func g) #[] caps), (4, .int .i64 0), (6, v), (7, Zy xs.length), (8, Zy (i : Nat))] _ _ ?_ (by simp (maxSteps := 2000000) only [↓Za, ↓Zk, ↓Zs, ↓Ze, ↓Zj, ↓Zt, ↓Zg, ↓Zm, ↓Zf, ↓Zc, ↓Zb, ↓vdn, vup, Zo, Zh, Zi, Zn, Zl, List.map_cons, List.map_nil, cond_true, cond_false, aop, Zw, Zr, Zp, ev, sput, Zu, Zz, Yb, unK, Zd, Zx, Nat.reduceBEq, Nat.reduceAdd, Int.reduceBEq, Int.reduceBNe, Int.reduceLT, Zv, Ya, tup, tyf])
    clear hN4
    try clear N4
    refine Yf fun B hB => ?_
    refine Ym ?_
    refine Yc fun N5 hN5 => ?_
    simp (maxSteps := 2000000) only [s98, ↓Za, ↓Zk, ↓Zs, ↓Ze, ↓Zj, ↓Zt, ↓Zg, ↓Zm, ↓Zf, ↓Zc, ↓Zb, ↓vdn, vup, Zo, Zh, Zi, Zn, Zl, List.map_cons, List.map_nil, cond_true, cond_false, aop, Zw, Zr, Zp, ev, sput, Zu, Zz, Yb, unK, Zd, Zx, Nat.reduceBEq, Nat.reduceAdd, Int.reduceBEq, Int.reduceBNe, Int.reduceLT, Zv, Ya, tup, tyf]
    refine hN5 [(0, v), (1, .func (.func g) #[] caps), (4, .int .i64 0), (5, Zy (i : Nat)), (6, v), (7, Zy xs.length), (8, Zy (i : Nat))] _ _ ?_ (by simp (maxSteps := 2000000) only [↓Za, ↓Zk, ↓Zs, ↓Ze, ↓Zj, ↓Zt, ↓Zg, ↓Zm, ↓Zf, ↓Zc, ↓Zb, ↓vdn, vup, Zo, Zh, Zi, Zn, Zl, List.map_cons, List.map_nil, cond_true, cond_false, aop, Zw, Zr, Zp, ev, sput, Zu, Zz, Yb, unK, Zd, Zx, Nat.reduceBEq, Nat.reduceAdd, Int.reduceBEq, Int.reduceBNe, Int.reduceLT, Zv, Ya, tup, tyf])
    clear hN5
    try clear N5
    refine Yc fun N6 hN6 => ?_
    simp (maxSteps := 2000000) only [s98, ↓Za, ↓Zk, ↓Zs, ↓Ze, ↓Zj, ↓Zt, ↓Zg, ↓Zm, ↓Zf, ↓Zc, ↓Zb, ↓vdn, vup, Zo, Zh, Zi, Zn, Zl, List.map_cons, List.map_nil, cond_true, cond_false, aop, Zw, Zr, Zp, ev, sput, Zu, Zz, Yb, unK, Zd, Zx, Nat.reduceBEq, Nat.reduceAdd, Int.reduceBEq, Int.reduceBNe, Int.reduceLT, Zv, Ya, tup, tyf, hv.idx We Xk hi', hv.load Xj hi', Yv, List.nil_append, List.append_nil, List.toList_toArray, List.cons_append]
    refine (hp _ hx).mono ?_
    rintro _ h ⟨rfl, rfl⟩
    refine hN6 [(0, v), (1, .func (.func g) #[] caps), (4, .int .i64 0), (5, Zy (i : Nat)), (6, v), (7, Zy xs.length), (8, Zy (i : Nat)), (16, .bool (p (xs.getD i 0)))] _ _ ?_ (by simp (maxSteps := 2000000) only [↓Za, ↓Zk, ↓Zs, ↓Ze, ↓Zj, ↓Zt, ↓Zg, ↓Zm, ↓Zf, ↓Zc, ↓Zb, ↓vdn, vup, Zo, Zh, Zi, Zn, Zl, List.map_cons, List.map_nil, cond_true, cond_false, aop, Zw, Zr, Zp, ev, sput, Zu, Zz, Yb, unK, Zd, Zx, Nat.reduceBEq, Nat.reduceAdd, Int.reduceBEq, Int.reduceBNe, Int.reduceLT, Zv, Ya, tup, tyf])
    clear hN6
    try clear N6
    cases hpx : p (xs.getD i 0) with
    | false =>
      refine Yy rfl ?_
      refine Ye ?_
      simp (maxSteps := 2000000) only [s98, ↓Za, ↓Zk, ↓Zs, ↓Ze, ↓Zj, ↓Zt, ↓Zg, ↓Zm, ↓Zf, ↓Zc, ↓Zb, ↓vdn, vup, Zo, Zh, Zi, Zn, Zl, List.map_cons, List.map_nil, cond_true, cond_false, aop, Zw, Zr, Zp, ev, sput, Zu, Zz, Yb, unK, Zd, Zx, Nat.reduceBEq, Nat.reduceAdd, Int.reduceBEq, Int.reduceBNe, Int.reduceLT, Zv, Ya, tup, tyf]
      refine hB [(0, v), (1, .func (.func g) #[] caps), (4, .int .i64 0), (6, v), (7, Zy xs.length), (8, Zy (i : Nat))] _ _ ?_ (by simp (maxSteps := 2000000) only [↓Za, ↓Zk, ↓Zs, ↓Ze, ↓Zj, ↓Zt, ↓Zg, ↓Zm, ↓Zf, ↓Zc, ↓Zb, ↓vdn, vup, Zo, Zh, Zi, Zn, Zl, List.map_cons, List.map_nil, cond_true, cond_false, aop, Zw, Zr, Zp, ev, sput, Zu, Zz, Yb, unK, Zd, Zx, Nat.reduceBEq, Nat.reduceAdd, Int.reduceBEq, Int.reduceBNe, Int.reduceLT, Zv, Ya, tup, tyf])
      clear hB
      try clear B
      refine Ye ?_
      simp (maxSteps := 2000000) only [s98, ↓Za, ↓Zk, ↓Zs, ↓Ze, ↓Zj, ↓Zt, ↓Zg, ↓Zm, ↓Zf, ↓Zc, ↓Zb, ↓vdn, vup, Zo, Zh, Zi, Zn, Zl, List.map_cons, List.map_nil, cond_true, cond_false, aop, Zw, Zr, Zp, ev, sput, Zu, Zz, Yb, unK, Zd, Zx, Nat.reduceBEq, Nat.reduceAdd, Int.reduceBEq, Int.reduceBNe, Int.reduceLT, Zv, Ya, tup, tyf, add1 (show i < 9223372036854775807 by omega)]
      exact hQ2 _ _ _ ⟨i + 1, ⟨hi', fun j hj => by
        by_cases hji : j = i
        · rw [hji]; exact hpx
        · exact hno j (by omega)⟩, by omega, by simp (maxSteps := 2000000) only [↓Za, ↓Zk, ↓Zs, ↓Ze, ↓Zj, ↓Zt, ↓Zg, ↓Zm, ↓Zf, ↓Zc, ↓Zb, ↓vdn, vup, Zo, Zh, Zi, Zn, Zl, List.map_cons, List.map_nil, cond_true, cond_false, aop, Zw, Zr, Zp, ev, sput, Zu, Zz, Yb, unK, Zd, Zx, Nat.reduceBEq, Nat.reduceAdd, Int.reduceBEq, Int.reduceBNe, Int.reduceLT, Zv, Ya, tup, tyf], rfl⟩
    | true =>
      refine Xm rfl ?_
      refine Ye ?_
      simp (maxSteps := 2000000) only [s98, ↓Za, ↓Zk, ↓Zs, ↓Ze, ↓Zj, ↓Zt, ↓Zg, ↓Zm, ↓Zf, ↓Zc, ↓Zb, ↓vdn, vup, Zo, Zh, Zi, Zn, Zl, List.map_cons, List.map_nil, cond_true, cond_false, aop, Zw, Zr, Zp, ev, sput, Zu, Zz, Yb, unK, Zd, Zx, Nat.reduceBEq, Nat.reduceAdd, Int.reduceBEq, Int.reduceBNe, Int.reduceLT, Zv, Ya, tup, tyf]
      refine hQ2 _ _ _ (hQ _ _ _ ?_)
      simp (maxSteps := 2000000) only [s98, ↓Za, ↓Zk, ↓Zs, ↓Ze, ↓Zj, ↓Zt, ↓Zg, ↓Zm, ↓Zf, ↓Zc, ↓Zb, ↓vdn, vup, Zo, Zh, Zi, Zn, Zl, List.map_cons, List.map_nil, cond_true, cond_false, aop, Zw, Zr, Zp, ev, sput, Zu, Zz, Yb, unK, Zd, Zx, Nat.reduceBEq, Nat.reduceAdd, Int.reduceBEq, Int.reduceBNe, Int.reduceLT, Zv, Ya, tup, tyf]
      have hany : xs.any p = true := List.any_eq_true.2 ⟨_, hx, hpx⟩
      have hfi : xs.findIdx p = i := by
        rw [List.findIdx_eq hi']
        refine ⟨by rw [← hxe]; exact hpx, fun j hj => ?_⟩
        have := hno j hj
        rw [List.getD, List.getElem?_eq_getElem (by omega)] at this
        exact this
      rw [idxF, if_pos hany, hfi]
  obtain rfl : i = xs.length := by omega
  refine Yc fun N7 hN7 => ?_
  simp (maxSteps := 2000000) only [s98, ↓Za, ↓Zk, ↓Zs, ↓Ze, ↓Zj, ↓Zt, ↓Zg, ↓Zm, ↓Zf, ↓Zc, ↓Zb, ↓vdn, vup, Zo, Zh, Zi, Zn, Zl, List.map_cons, List.map_nil, cond_true, cond_false, aop, Zw, Zr, Zp, ev, sput, Zu, Zz, Yb, unK, Zd, Zx, Nat.reduceBEq, Nat.reduceAdd, Int.reduceBEq, Int.reduceBNe, Int.reduceLT, Zv, Ya, tup, tyf, hin]
  refine hN7 [(0, v), (1, .func (.func g) #[] caps), (4, .int .i64 0), (6, v), (7, Zy xs.length), (8, Zy xs.length), (9, .bool false)] _ _ ?_ (by simp (maxSteps := 2000000) only [↓Za, ↓Zk, ↓Zs, ↓Ze, ↓Zj, ↓Zt, ↓Zg, ↓Zm, ↓Zf, ↓Zc, ↓Zb, ↓vdn, vup, Zo, Zh, Zi, Zn, Zl, List.map_cons, List.map_nil, cond_true, cond_false, aop, Zw, Zr, Zp, ev, sput, Zu, Zz, Yb, unK, Zd, Zx, Nat.reduceBEq, Nat.reduceAdd, Int.reduceBEq, Int.reduceBNe, Int.reduceLT, Zv, Ya, tup, tyf])
  clear hN7
  try clear N7
  refine Yc fun N8 hN8 => ?_
  simp (maxSteps := 2000000) only [s98, ↓Za, ↓Zk, ↓Zs, ↓Ze, ↓Zj, ↓Zt, ↓Zg, ↓Zm, ↓Zf, ↓Zc, ↓Zb, ↓vdn, vup, Zo, Zh, Zi, Zn, Zl, List.map_cons, List.map_nil, cond_true, cond_false, aop, Zw, Zr, Zp, ev, sput, Zu, Zz, Yb, unK, Zd, Zx, Nat.reduceBEq, Nat.reduceAdd, Int.reduceBEq, Int.reduceBNe, Int.reduceLT, Zv, Ya, tup, tyf]
  refine hQ2 _ _ _ (hQ _ _ _ ?_)
  simp (maxSteps := 2000000) only [s98, ↓Za, ↓Zk, ↓Zs, ↓Ze, ↓Zj, ↓Zt, ↓Zg, ↓Zm, ↓Zf, ↓Zc, ↓Zb, ↓vdn, vup, Zo, Zh, Zi, Zn, Zl, List.map_cons, List.map_nil, cond_true, cond_false, aop, Zw, Zr, Zp, ev, sput, Zu, Zz, Yb, unK, Zd, Zx, Nat.reduceBEq, Nat.reduceAdd, Int.reduceBEq, Int.reduceBNe, Int.reduceLT, Zv, Ya, tup, tyf, if_true]
  refine hZ [(0, v), (1, .func (.func g) #[] caps), (4, .int .i64 0)] _ _ ?_ (by simp (maxSteps := 2000000) only [↓Za, ↓Zk, ↓Zs, ↓Ze, ↓Zj, ↓Zt, ↓Zg, ↓Zm, ↓Zf, ↓Zc, ↓Zb, ↓vdn, vup, Zo, Zh, Zi, Zn, Zl, List.map_cons, List.map_nil, cond_true, cond_false, aop, Zw, Zr, Zp, ev, sput, Zu, Zz, Yb, unK, Zd, Zx, Nat.reduceBEq, Nat.reduceAdd, Int.reduceBEq, Int.reduceBNe, Int.reduceLT, Zv, Ya, tup, tyf])
  clear hZ
  try clear Z
  refine Ye ?_
  simp (maxSteps := 2000000) only [s98, ↓Za, ↓Zk, ↓Zs, ↓Ze, ↓Zj, ↓Zt, ↓Zg, ↓Zm, ↓Zf, ↓Zc, ↓Zb, ↓vdn, vup, Zo, Zh, Zi, Zn, Zl, List.map_cons, List.map_nil, cond_true, cond_false, aop, Zw, Zr, Zp, ev, sput, Zu, Zz, Yb, unK, Zd, Zx, Nat.reduceBEq, Nat.reduceAdd, Int.reduceBEq, Int.reduceBNe, Int.reduceLT, Zv, Ya, tup, tyf]
  have hany : xs.any p = false := by
    rw [List.any_eq_false]
    intro x hx
    obtain ⟨j, hj, rfl⟩ := List.mem_iff_getElem.1 hx
    have := hno j hj
    rw [List.getD, List.getElem?_eq_getElem hj] at this
    rw [show p xs[j] = false from this]; decide
  rw [idxF, hany]
  rfl
theorem idxF_ge (p : Int → Bool) (xs : List Int) : decide (idxF p xs ≥ 0) = xs.any p := by
  rw [idxF]
  cases xs.any p with
  | true => rw [if_pos rfl]; simp
  | false => rfl
theorem s83_callW [Tabs Tryd.prog] {args : List Value} {h : Yd} {Q : Value → Yd → Prop} (hsz : args.length ≤ 9) (hk : AWS Tryd.prog 9 s83 (Zv Tryd.prog [.tmp 4] Q) (Zp 0 args) h) : ACall Tryd.prog 83 args h Q :=
  Xq Tryd.func83 rfl (enters_of Tryd.func83 (by kernel_rfl) rfl) rfl rfl (by decide) s83_strip s83_ok hsz hk
theorem containsF_call [Tabs prog] {h : Yd} {v : Value} {xs : List Int} {g : FuncId} {caps : Array Value} {p : Int → Bool} (hv : IntSl h v xs) (hl : xs.length < 9223372036854775807) (hp : ∀ x ∈ xs, APure prog g (Zy x :: caps.toList) h (.bool (p x))) :
    APure prog 83 [v, .func (.func g) #[] caps] h (.bool (xs.any p)) := by
  refine s83_callW (by simp) ?_
  simp only [s83]
  refine Yc fun N9 hN9 => ?_
  simp (maxSteps := 2000000) only [s83, ↓Za, ↓Zk, ↓Zs, ↓Ze, ↓Zj, ↓Zt, ↓Zg, ↓Zm, ↓Zf, ↓Zc, ↓Zb, ↓vdn, vup, Zo, Zh, Zi, Zn, Zl, List.map_cons, List.map_nil, cond_true, cond_false, aop, Zw, Zr, Zp, ev, sput, Zu, Zz, Yb, unK, Zd, Zx, Nat.reduceBEq, Nat.reduceAdd, Int.reduceBEq, Int.reduceBNe, Int.reduceLT, Zv, Ya, tup, tyf]
  refine hN9 [(0, v), (1, .func (.func g) #[] caps), (4, .bool false)] _ _ ?_ (by simp (maxSteps := 2000000) only [↓Za, ↓Zk, ↓Zs, ↓Ze, ↓Zj, ↓Zt, ↓Zg, ↓Zm, ↓Zf, ↓Zc, ↓Zb, ↓vdn, vup, Zo, Zh, Zi, Zn, Zl, List.map_cons, List.map_nil, cond_true, cond_false, aop, Zw, Zr, Zp, ev, sput, Zu, Zz, Yb, unK, Zd, Zx, Nat.reduceBEq, Nat.reduceAdd, Int.reduceBEq, Int.reduceBNe, Int.reduceLT, Zv, Ya, tup, tyf])
  clear hN9
  try clear N9
  refine Ye ?_
  simp (maxSteps := 2000000) only [s83, ↓Za, ↓Zk, ↓Zs, ↓Ze, ↓Zj, ↓Zt, ↓Zg, ↓Zm, ↓Zf, ↓Zc, ↓Zb, ↓vdn, vup, Zo, Zh, Zi, Zn, Zl, List.map_cons, List.map_nil, cond_true, cond_false, aop, Zw, Zr, Zp, ev, sput, Zu, Zz, Yb, unK, Zd, Zx, Nat.reduceBEq, Nat.reduceAdd, Int.reduceBEq, Int.reduceBNe, Int.reduceLT, Zv, Ya, tup, tyf, Yv, List.nil_append, List.append_nil, List.toList_toArray, List.cons_append]
  refine (index_call hv hl hp).mono ?_
  rintro _ h ⟨rfl, rfl⟩
  simp (maxSteps := 2000000) only [s83, ↓Za, ↓Zk, ↓Zs, ↓Ze, ↓Zj, ↓Zt, ↓Zg, ↓Zm, ↓Zf, ↓Zc, ↓Zb, ↓vdn, vup, Zo, Zh, Zi, Zn, Zl, List.map_cons, List.map_nil, cond_true, cond_false, aop, Zw, Zr, Zp, ev, sput, Zu, Zz, Yb, unK, Zd, Zx, Nat.reduceBEq, Nat.reduceAdd, Int.reduceBEq, Int.reduceBNe, Int.reduceLT, Zv, Ya, tup, tyf]
  rw [← idxF_ge]
def inB (s : Nat) (t : Int) : Bool := decide ((s : Int) ≠ t) && decide (less s t.toNat = 0)
theorem in_call [Tabs prog] {h : Yd} {b s t : Nat} (hb : h[b]? = some (.cells [Zy s] 3 false)) (hs : s < 9223372036854775808) (ht : t < 9223372036854775808) : APure prog 84 [Zy t, .pointer (some ⟨b, 0, none⟩)] h (.bool (inB s t)) := by
  refine s84_call (by simp) ?_
  simp only [s84]
  have ha : Wi .andNot .i64 ((s : Nat) : Int) ((t : Nat) : Int) = ((less s t : Nat) : Int) := bitsV_andNot hs ht
  by_cases hst : s = t
  · have hne : ((s : Int) != (t : Int)) = false := by simp [hst]
    simp (maxSteps := 2000000) only [s84, ↓Za, ↓Zk, ↓Zs, ↓Ze, ↓Zj, ↓Zt, ↓Zg, ↓Zm, ↓Zf, ↓Zc, ↓Zb, ↓vdn, vup, Zo, Zh, Zi, Zn, Zl, List.map_cons, List.map_nil, cond_true, cond_false, aop, Zw, Zr, Zp, ev, sput, Zu, Zz, Yb, unK, Zd, Zx, Nat.reduceBEq, Nat.reduceAdd, Int.reduceBEq, Int.reduceBNe, Int.reduceLT, Zv, Ya, tup, tyf, Wz hb Xj, hne]
    rw [inB, decide_eq_false (by rw [hst]; simp)]
    rfl
  · have hne : ((s : Int) != (t : Int)) = true := by rw [bne_iff_ne]; omega
    have heq : (((less s t : Nat) : Int) == 0) = decide (less s t = 0) := by rw [Bool.eq_iff_iff]; simp
    simp (maxSteps := 2000000) only [s84, ↓Za, ↓Zk, ↓Zs, ↓Ze, ↓Zj, ↓Zt, ↓Zg, ↓Zm, ↓Zf, ↓Zc, ↓Zb, ↓vdn, vup, Zo, Zh, Zi, Zn, Zl, List.map_cons, List.map_nil, cond_true, cond_false, aop, Zw, Zr, Zp, ev, sput, Zu, Zz, Yb, unK, Zd, Zx, Nat.reduceBEq, Nat.reduceAdd, Int.reduceBEq, Int.reduceBNe, Int.reduceLT, Zv, Ya, tup, tyf, Wz hb Xj, hne, ha, heq]
    rw [inB, decide_eq_true (show (s : Int) ≠ t by omega), Bool.true_and, Int.toNat_natCast]
theorem boxI {h : Yd} {x : Int} {K : Value → Yd → Prop} : boxK prog h 3 (Zy x) K = K (Xv h) (h ++ [.cells [Zy x] 3 false]) := by
  simp [boxK, Xk, Xv, cellsOf]
theorem s82_callW [Tabs Tryd.prog] {args : List Value} {h : Yd} {Q : Value → Yd → Prop} (hsz : args.length ≤ 7) (hk : AWS Tryd.prog 7 s82 (Zv Tryd.prog [.tmp 3] Q) (Zp 0 args) h) : ACall Tryd.prog 82 args h Q :=
  Xq Tryd.func82 rfl (enters_of Tryd.func82 (by kernel_rfl) rfl) rfl rfl (by decide) s82_strip s82_ok hsz hk
theorem sub_call [Tabs prog] {h : Yd} {b s : Nat} {sv : Value} {xs : List Int} (hb : h[b]? = some (.cells [sv] 22 false)) (hv : IntSl h sv xs) (hl : xs.length < 9223372036854775807) (hs : s < 9223372036854775808) (hx : ∀ x ∈ xs, ∃ t : Nat, x = t ∧ t < 9223372036854775808) :
    APure prog 82 [Zy s, .pointer (some ⟨b, 0, none⟩)] h (.bool (xs.any (inB s))) := by
  refine ACall.forget (.bool _) ?_
  have hE : Ext (fun _ => False) h (h ++ [Blk.cells [Zy s] 3 false]) := Ext.app _ _ _
  refine s82_callW (by simp) ?_
  simp only [s82]
  refine Yc fun N10 hN10 => ?_
  simp (maxSteps := 2000000) only [s82, ↓Za, ↓Zk, ↓Zs, ↓Ze, ↓Zj, ↓Zt, ↓Zg, ↓Zm, ↓Zf, ↓Zc, ↓Zb, ↓vdn, vup, Zo, Zh, Zi, Zn, Zl, List.map_cons, List.map_nil, cond_true, cond_false, aop, Zw, Zr, Zp, ev, sput, Zu, Zz, Yb, unK, Zd, Zx, Nat.reduceBEq, Nat.reduceAdd, Int.reduceBEq, Int.reduceBNe, Int.reduceLT, Zv, Ya, tup, tyf, boxI, Xv]
  refine hN10 [(0, Zy s), (1, .pointer (some ⟨b, 0, none⟩)), (2, .pointer (some ⟨h.length, 0, none⟩)), (3, .bool false)] _ _ ?_ (by simp (maxSteps := 2000000) only [↓Za, ↓Zk, ↓Zs, ↓Ze, ↓Zj, ↓Zt, ↓Zg, ↓Zm, ↓Zf, ↓Zc, ↓Zb, ↓vdn, vup, Zo, Zh, Zi, Zn, Zl, List.map_cons, List.map_nil, cond_true, cond_false, aop, Zw, Zr, Zp, ev, sput, Zu, Zz, Yb, unK, Zd, Zx, Nat.reduceBEq, Nat.reduceAdd, Int.reduceBEq, Int.reduceBNe, Int.reduceLT, Zv, Ya, tup, tyf])
  clear hN10
  try clear N10
  refine Ye ?_
  simp (maxSteps := 2000000) only [s82, ↓Za, ↓Zk, ↓Zs, ↓Ze, ↓Zj, ↓Zt, ↓Zg, ↓Zm, ↓Zf, ↓Zc, ↓Zb, ↓vdn, vup, Zo, Zh, Zi, Zn, Zl, List.map_cons, List.map_nil, cond_true, cond_false, aop, Zw, Zr, Zp, ev, sput, Zu, Zz, Yb, unK, Zd, Zx, Nat.reduceBEq, Nat.reduceAdd, Int.reduceBEq, Int.reduceBNe, Int.reduceLT, Zv, Ya, tup, tyf, Wz (Vd hb [Blk.cells [Zy s] 3 false]) shp_22, List.map_toArray, Yv, List.nil_append, List.append_nil, List.toList_toArray, List.cons_append]
  refine (containsF_call (p := inB s) (hv.grow _) hl fun x hm => ?_).mono ?_
  · obtain ⟨t, rfl, ht⟩ := hx x hm
    exact in_call (Xa h (Blk.cells [Zy s] 3 false)) hs ht
  rintro _ _ ⟨rfl, rfl⟩
  simp (maxSteps := 2000000) only [s82, ↓Za, ↓Zk, ↓Zs, ↓Ze, ↓Zj, ↓Zt, ↓Zg, ↓Zm, ↓Zf, ↓Zc, ↓Zb, ↓vdn, vup, Zo, Zh, Zi, Zn, Zl, List.map_cons, List.map_nil, cond_true, cond_false, aop, Zw, Zr, Zp, ev, sput, Zu, Zz, Yb, unK, Zd, Zx, Nat.reduceBEq, Nat.reduceAdd, Int.reduceBEq, Int.reduceBNe, Int.reduceLT, Zv, Ya, tup, tyf]
  exact hE

def minT (xs : List Int) : Nat → Int
  | 0 => xs.getD 0 0
  | k + 1 => if xs.getD k 0 < minT xs k then xs.getD k 0 else minT xs k
theorem minT_neg {xs : List Int} (h0 : xs ≠ []) : minT xs xs.length < 0 ↔ ∃ x ∈ xs, x < 0 := by
  have hget : ∀ k, k < xs.length → xs.getD k 0 ∈ xs := fun k hk => by rw [List.getD, List.getElem?_eq_getElem hk]; exact List.getElem_mem hk
  have hpos := List.length_pos_iff.2 h0
  have h1 : ∀ k, k ≤ xs.length → minT xs k ∈ xs ∧ ∀ j, j < k → minT xs k ≤ xs.getD j 0 := by
    intro k
    induction k with
    | zero => intro _; exact ⟨hget 0 hpos, fun j hj => absurd hj (Nat.not_lt_zero j)⟩
    | succ k ih =>
      intro hk
      obtain ⟨i1, i2⟩ := ih (by omega)
      rw [minT]
      split
      · refine ⟨hget k (by omega), fun j hj => ?_⟩
        by_cases hjk : j = k
        · subst hjk; exact Int.le_refl _
        · have := i2 j (by omega); omega
      · refine ⟨i1, fun j hj => ?_⟩
        by_cases hjk : j = k
        · subst hjk; omega
        · exact i2 j (by omega)
  obtain ⟨i1, i2⟩ := h1 _ (Nat.le_refl _)
  constructor
  · intro h; exact ⟨_, i1, h⟩
  · rintro ⟨x, hx, hn⟩
    obtain ⟨j, hj, rfl⟩ := List.mem_iff_getElem.1 hx
    have := i2 j hj
    rw [List.getD, List.getElem?_eq_getElem hj, Option.getD_some] at this
    omega
theorem minT_one (xs : List Int) : minT xs 1 = xs.getD 0 0 := by
  simp [minT]
theorem s87_callW [Tabs Tryd.prog] {args : List Value} {h : Yd} {Q : Value → Yd → Prop} (hsz : args.length ≤ 25) (hk : AWS Tryd.prog 25 s87 (Zv Tryd.prog [.tmp 2] Q) (Zp 0 args) h) : ACall Tryd.prog 87 args h Q :=
  Xq Tryd.func87 rfl (enters_of Tryd.func87 (by kernel_rfl) rfl) rfl rfl (by decide) s87_strip s87_ok hsz hk
theorem min_call [Tabs prog] {h : Yd} {v : Value} {xs : List Int} (hv : IntSl h v xs) (h0 : xs ≠ []) (hl : xs.length < 9223372036854775807) : APure prog 87 [v] h (Zy (minT xs xs.length)) := by
  have hpos := List.length_pos_iff.2 h0
  refine s87_callW (by simp) ?_
  simp only [s87]
  refine Yc fun N11 hN11 => ?_
  simp (maxSteps := 2000000) only [s87, ↓Za, ↓Zk, ↓Zs, ↓Ze, ↓Zj, ↓Zt, ↓Zg, ↓Zm, ↓Zf, ↓Zc, ↓Zb, ↓vdn, vup, Zo, Zh, Zi, Zn, Zl, List.map_cons, List.map_nil, cond_true, cond_false, aop, Zw, Zr, Zp, ev, sput, Zu, Zz, Yb, unK, Zd, Zx, Nat.reduceBEq, Nat.reduceAdd, Int.reduceBEq, Int.reduceBNe, Int.reduceLT, Zv, Ya, tup, tyf]
  refine hN11 [(0, v), (2, .int .i64 0)] _ _ ?_ (by simp (maxSteps := 2000000) only [↓Za, ↓Zk, ↓Zs, ↓Ze, ↓Zj, ↓Zt, ↓Zg, ↓Zm, ↓Zf, ↓Zc, ↓Zb, ↓vdn, vup, Zo, Zh, Zi, Zn, Zl, List.map_cons, List.map_nil, cond_true, cond_false, aop, Zw, Zr, Zp, ev, sput, Zu, Zz, Yb, unK, Zd, Zx, Nat.reduceBEq, Nat.reduceAdd, Int.reduceBEq, Int.reduceBNe, Int.reduceLT, Zv, Ya, tup, tyf])
  clear hN11
  try clear N11
  have hlt : ¬ ((xs.length : Int) < 1) := by omega
  refine Yf fun M hM => ?_
  refine Yc fun N12 hN12 => ?_
  simp (maxSteps := 2000000) only [s87, ↓Za, ↓Zk, ↓Zs, ↓Ze, ↓Zj, ↓Zt, ↓Zg, ↓Zm, ↓Zf, ↓Zc, ↓Zb, ↓vdn, vup, Zo, Zh, Zi, Zn, Zl, List.map_cons, List.map_nil, cond_true, cond_false, aop, Zw, Zr, Zp, ev, sput, Zu, Zz, Yb, unK, Zd, Zx, Nat.reduceBEq, Nat.reduceAdd, Int.reduceBEq, Int.reduceBNe, Int.reduceLT, Zv, Ya, tup, tyf, hv.len, hlt]
  refine hN12 [(0, v), (2, .int .i64 0), (7, .bool false)] _ _ ?_ (by simp (maxSteps := 2000000) only [↓Za, ↓Zk, ↓Zs, ↓Ze, ↓Zj, ↓Zt, ↓Zg, ↓Zm, ↓Zf, ↓Zc, ↓Zb, ↓vdn, vup, Zo, Zh, Zi, Zn, Zl, List.map_cons, List.map_nil, cond_true, cond_false, aop, Zw, Zr, Zp, ev, sput, Zu, Zz, Yb, unK, Zd, Zx, Nat.reduceBEq, Nat.reduceAdd, Int.reduceBEq, Int.reduceBNe, Int.reduceLT, Zv, Ya, tup, tyf])
  clear hN12
  try clear N12
  refine Yy rfl ?_
  refine Ye ?_
  simp (maxSteps := 2000000) only [s87, ↓Za, ↓Zk, ↓Zs, ↓Ze, ↓Zj, ↓Zt, ↓Zg, ↓Zm, ↓Zf, ↓Zc, ↓Zb, ↓vdn, vup, Zo, Zh, Zi, Zn, Zl, List.map_cons, List.map_nil, cond_true, cond_false, aop, Zw, Zr, Zp, ev, sput, Zu, Zz, Yb, unK, Zd, Zx, Nat.reduceBEq, Nat.reduceAdd, Int.reduceBEq, Int.reduceBNe, Int.reduceLT, Zv, Ya, tup, tyf]
  refine hM [(0, v), (2, .int .i64 0)] _ _ ?_ (by simp (maxSteps := 2000000) only [↓Za, ↓Zk, ↓Zs, ↓Ze, ↓Zj, ↓Zt, ↓Zg, ↓Zm, ↓Zf, ↓Zc, ↓Zb, ↓vdn, vup, Zo, Zh, Zi, Zn, Zl, List.map_cons, List.map_nil, cond_true, cond_false, aop, Zw, Zr, Zp, ev, sput, Zu, Zz, Yb, unK, Zd, Zx, Nat.reduceBEq, Nat.reduceAdd, Int.reduceBEq, Int.reduceBNe, Int.reduceLT, Zv, Ya, tup, tyf])
  clear hM
  try clear M
  have hi0 : ∀ K : Value → Prop, Xg prog 22 v (.int .i64 0) K = K (Wq v 1 0) := fun K => hv.idx (k := .i64) (i := 0) We Xk hpos K
  refine Yc fun N13 hN13 => ?_
  simp (maxSteps := 2000000) only [s87, ↓Za, ↓Zk, ↓Zs, ↓Ze, ↓Zj, ↓Zt, ↓Zg, ↓Zm, ↓Zf, ↓Zc, ↓Zb, ↓vdn, vup, Zo, Zh, Zi, Zn, Zl, List.map_cons, List.map_nil, cond_true, cond_false, aop, Zw, Zr, Zp, ev, sput, Zu, Zz, Yb, unK, Zd, Zx, Nat.reduceBEq, Nat.reduceAdd, Int.reduceBEq, Int.reduceBNe, Int.reduceLT, Zv, Ya, tup, tyf, hi0, hv.load Xj hpos, ← minT_one]
  refine hN13 [(0, v), (2, .int .i64 0), (3, Zy (minT xs 1))] _ _ ?_ (by simp (maxSteps := 2000000) only [↓Za, ↓Zk, ↓Zs, ↓Ze, ↓Zj, ↓Zt, ↓Zg, ↓Zm, ↓Zf, ↓Zc, ↓Zb, ↓vdn, vup, Zo, Zh, Zi, Zn, Zl, List.map_cons, List.map_nil, cond_true, cond_false, aop, Zw, Zr, Zp, ev, sput, Zu, Zz, Yb, unK, Zd, Zx, Nat.reduceBEq, Nat.reduceAdd, Int.reduceBEq, Int.reduceBNe, Int.reduceLT, Zv, Ya, tup, tyf])
  clear hN13
  try clear N13
  refine Yf fun Z hZ => ?_
  refine Yc fun N14 hN14 => ?_
  simp (maxSteps := 2000000) only [s87, ↓Za, ↓Zk, ↓Zs, ↓Ze, ↓Zj, ↓Zt, ↓Zg, ↓Zm, ↓Zf, ↓Zc, ↓Zb, ↓vdn, vup, Zo, Zh, Zi, Zn, Zl, List.map_cons, List.map_nil, cond_true, cond_false, aop, Zw, Zr, Zp, ev, sput, Zu, Zz, Yb, unK, Zd, Zx, Nat.reduceBEq, Nat.reduceAdd, Int.reduceBEq, Int.reduceBNe, Int.reduceLT, Zv, Ya, tup, tyf]
  refine hN14 [(0, v), (2, .int .i64 0), (3, Zy (minT xs 1)), (4, .int .i64 1)] _ _ ?_ (by simp (maxSteps := 2000000) only [↓Za, ↓Zk, ↓Zs, ↓Ze, ↓Zj, ↓Zt, ↓Zg, ↓Zm, ↓Zf, ↓Zc, ↓Zb, ↓vdn, vup, Zo, Zh, Zi, Zn, Zl, List.map_cons, List.map_nil, cond_true, cond_false, aop, Zw, Zr, Zp, ev, sput, Zu, Zz, Yb, unK, Zd, Zx, Nat.reduceBEq, Nat.reduceAdd, Int.reduceBEq, Int.reduceBNe, Int.reduceLT, Zv, Ya, tup, tyf])
  clear hN14
  try clear N14
  refine Ym ?_
  refine Yg fun Q hQ => ?_
  refine Xu (γ := Nat) (fun k => 1 ≤ k ∧ k ≤ xs.length) (fun k => ([(0, v), (2, .int .i64 0), (3, Zy (minT xs k)), (4, Zy (k : Nat))], h)) (fun k => xs.length - k) 1 ⟨Nat.le_refl _, hpos⟩ (by simp (maxSteps := 2000000) only [↓Za, ↓Zk, ↓Zs, ↓Ze, ↓Zj, ↓Zt, ↓Zg, ↓Zm, ↓Zf, ↓Zc, ↓Zb, ↓vdn, vup, Zo, Zh, Zi, Zn, Zl, List.map_cons, List.map_nil, cond_true, cond_false, aop, Zw, Zr, Zp, ev, sput, Zu, Zz, Yb, unK, Zd, Zx, Nat.reduceBEq, Nat.reduceAdd, Int.reduceBEq, Int.reduceBNe, Int.reduceLT, Zv, Ya, tup, tyf, Int.natCast_one]) rfl ?_
  rintro k ⟨hk1, hk⟩
  refine Yg fun Q2 hQ2 => ?_
  simp only [l87_0]
  by_cases hkin : (k : Int) < xs.length
  · have hk' : k < xs.length := by omega
    refine Yf fun A hA => ?_
    refine Yc fun N15 hN15 => ?_
    simp (maxSteps := 2000000) only [s87, ↓Za, ↓Zk, ↓Zs, ↓Ze, ↓Zj, ↓Zt, ↓Zg, ↓Zm, ↓Zf, ↓Zc, ↓Zb, ↓vdn, vup, Zo, Zh, Zi, Zn, Zl, List.map_cons, List.map_nil, cond_true, cond_false, aop, Zw, Zr, Zp, ev, sput, Zu, Zz, Yb, unK, Zd, Zx, Nat.reduceBEq, Nat.reduceAdd, Int.reduceBEq, Int.reduceBNe, Int.reduceLT, Zv, Ya, tup, tyf, hv.len, hkin]
    refine hN15 [(0, v), (2, .int .i64 0), (3, Zy (minT xs k)), (4, Zy (k : Nat)), (15, .bool true)] _ _ ?_ (by simp (maxSteps := 2000000) only [↓Za, ↓Zk, ↓Zs, ↓Ze, ↓Zj, ↓Zt, ↓Zg, ↓Zm, ↓Zf, ↓Zc, ↓Zb, ↓vdn, vup, Zo, Zh, Zi, Zn, Zl, List.map_cons, List.map_nil, cond_true, cond_false, aop, Zw, Zr, Zp, ev, sput, Zu, Zz, Yb, unK, Zd, Zx, Nat.reduceBEq, Nat.reduceAdd, Int.reduceBEq, Int.reduceBNe, Int.reduceLT, Zv, Ya, tup, tyf])
    clear hN15
    try clear N15
    refine Xm rfl ?_
    refine Ye ?_
    simp (maxSteps := 2000000) only [s87, ↓Za, ↓Zk, ↓Zs, ↓Ze, ↓Zj, ↓Zt, ↓Zg, ↓Zm, ↓Zf, ↓Zc, ↓Zb, ↓vdn, vup, Zo, Zh, Zi, Zn, Zl, List.map_cons, List.map_nil, cond_true, cond_false, aop, Zw, Zr, Zp, ev, sput, Zu, Zz, Yb, unK, Zd, Zx, Nat.reduceBEq, Nat.reduceAdd, Int.reduceBEq, Int.reduceBNe, Int.reduceLT, Zv, Ya, tup, tyf]
    refine hA [(0, v), (2, .int .i64 0), (3, Zy (minT xs k)), (4, Zy (k : Nat))] _ _ ?_ (by simp (maxSteps := 2000000) only [↓Za, ↓Zk, ↓Zs, ↓Ze, ↓Zj, ↓Zt, ↓Zg, ↓Zm, ↓Zf, ↓Zc, ↓Zb, ↓vdn, vup, Zo, Zh, Zi, Zn, Zl, List.map_cons, List.map_nil, cond_true, cond_false, aop, Zw, Zr, Zp, ev, sput, Zu, Zz, Yb, unK, Zd, Zx, Nat.reduceBEq, Nat.reduceAdd, Int.reduceBEq, Int.reduceBNe, Int.reduceLT, Zv, Ya, tup, tyf])
    clear hA
    try clear A
    refine Yf fun B hB => ?_
    refine Ym ?_
    refine Ye ?_
    simp (maxSteps := 2000000) only [s87, ↓Za, ↓Zk, ↓Zs, ↓Ze, ↓Zj, ↓Zt, ↓Zg, ↓Zm, ↓Zf, ↓Zc, ↓Zb, ↓vdn, vup, Zo, Zh, Zi, Zn, Zl, List.map_cons, List.map_nil, cond_true, cond_false, aop, Zw, Zr, Zp, ev, sput, Zu, Zz, Yb, unK, Zd, Zx, Nat.reduceBEq, Nat.reduceAdd, Int.reduceBEq, Int.reduceBNe, Int.reduceLT, Zv, Ya, tup, tyf, hv.idx We Xk hk', hv.load Xj hk', mmK, if_false, Bool.false_eq_true, show (if xs.getD k 0 < minT xs k then xs.getD k 0 else minT xs k) = minT xs (k + 1) from rfl]
    refine hB [(0, v), (2, .int .i64 0), (3, Zy (minT xs (k + 1))), (4, Zy (k : Nat))] _ _ ?_ (by simp (maxSteps := 2000000) only [↓Za, ↓Zk, ↓Zs, ↓Ze, ↓Zj, ↓Zt, ↓Zg, ↓Zm, ↓Zf, ↓Zc, ↓Zb, ↓vdn, vup, Zo, Zh, Zi, Zn, Zl, List.map_cons, List.map_nil, cond_true, cond_false, aop, Zw, Zr, Zp, ev, sput, Zu, Zz, Yb, unK, Zd, Zx, Nat.reduceBEq, Nat.reduceAdd, Int.reduceBEq, Int.reduceBNe, Int.reduceLT, Zv, Ya, tup, tyf])
    clear hB
    try clear B
    refine Ye ?_
    simp (maxSteps := 2000000) only [s87, ↓Za, ↓Zk, ↓Zs, ↓Ze, ↓Zj, ↓Zt, ↓Zg, ↓Zm, ↓Zf, ↓Zc, ↓Zb, ↓vdn, vup, Zo, Zh, Zi, Zn, Zl, List.map_cons, List.map_nil, cond_true, cond_false, aop, Zw, Zr, Zp, ev, sput, Zu, Zz, Yb, unK, Zd, Zx, Nat.reduceBEq, Nat.reduceAdd, Int.reduceBEq, Int.reduceBNe, Int.reduceLT, Zv, Ya, tup, tyf, add1 (show k < 9223372036854775807 by omega)]
    exact hQ2 _ _ _ ⟨k + 1, ⟨by omega, hk'⟩, by omega, by simp (maxSteps := 2000000) only [↓Za, ↓Zk, ↓Zs, ↓Ze, ↓Zj, ↓Zt, ↓Zg, ↓Zm, ↓Zf, ↓Zc, ↓Zb, ↓vdn, vup, Zo, Zh, Zi, Zn, Zl, List.map_cons, List.map_nil, cond_true, cond_false, aop, Zw, Zr, Zp, ev, sput, Zu, Zz, Yb, unK, Zd, Zx, Nat.reduceBEq, Nat.reduceAdd, Int.reduceBEq, Int.reduceBNe, Int.reduceLT, Zv, Ya, tup, tyf], rfl⟩
  obtain rfl : k = xs.length := by omega
  refine Yf fun A hA => ?_
  refine Yc fun N16 hN16 => ?_
  simp (maxSteps := 2000000) only [s87, ↓Za, ↓Zk, ↓Zs, ↓Ze, ↓Zj, ↓Zt, ↓Zg, ↓Zm, ↓Zf, ↓Zc, ↓Zb, ↓vdn, vup, Zo, Zh, Zi, Zn, Zl, List.map_cons, List.map_nil, cond_true, cond_false, aop, Zw, Zr, Zp, ev, sput, Zu, Zz, Yb, unK, Zd, Zx, Nat.reduceBEq, Nat.reduceAdd, Int.reduceBEq, Int.reduceBNe, Int.reduceLT, Zv, Ya, tup, tyf, hv.len, hkin]
  refine hN16 [(0, v), (2, .int .i64 0), (3, Zy (minT xs xs.length)), (4, Zy xs.length), (15, .bool false)] _ _ ?_ (by simp (maxSteps := 2000000) only [↓Za, ↓Zk, ↓Zs, ↓Ze, ↓Zj, ↓Zt, ↓Zg, ↓Zm, ↓Zf, ↓Zc, ↓Zb, ↓vdn, vup, Zo, Zh, Zi, Zn, Zl, List.map_cons, List.map_nil, cond_true, cond_false, aop, Zw, Zr, Zp, ev, sput, Zu, Zz, Yb, unK, Zd, Zx, Nat.reduceBEq, Nat.reduceAdd, Int.reduceBEq, Int.reduceBNe, Int.reduceLT, Zv, Ya, tup, tyf])
  clear hN16
  try clear N16
  refine Yy rfl ?_
  refine Ye ?_
  simp (maxSteps := 2000000) only [s87, ↓Za, ↓Zk, ↓Zs, ↓Ze, ↓Zj, ↓Zt, ↓Zg, ↓Zm, ↓Zf, ↓Zc, ↓Zb, ↓vdn, vup, Zo, Zh, Zi, Zn, Zl, List.map_cons, List.map_nil, cond_true, cond_false, aop, Zw, Zr, Zp, ev, sput, Zu, Zz, Yb, unK, Zd, Zx, Nat.reduceBEq, Nat.reduceAdd, Int.reduceBEq, Int.reduceBNe, Int.reduceLT, Zv, Ya, tup, tyf]
  refine hQ2 _ _ _ (hQ _ _ _ ?_)
  simp (maxSteps := 2000000) only [s87, ↓Za, ↓Zk, ↓Zs, ↓Ze, ↓Zj, ↓Zt, ↓Zg, ↓Zm, ↓Zf, ↓Zc, ↓Zb, ↓vdn, vup, Zo, Zh, Zi, Zn, Zl, List.map_cons, List.map_nil, cond_true, cond_false, aop, Zw, Zr, Zp, ev, sput, Zu, Zz, Yb, unK, Zd, Zx, Nat.reduceBEq, Nat.reduceAdd, Int.reduceBEq, Int.reduceBNe, Int.reduceLT, Zv, Ya, tup, tyf, if_true]
  refine hZ [(0, v), (2, .int .i64 0), (3, Zy (minT xs xs.length))] _ _ ?_ (by simp (maxSteps := 2000000) only [↓Za, ↓Zk, ↓Zs, ↓Ze, ↓Zj, ↓Zt, ↓Zg, ↓Zm, ↓Zf, ↓Zc, ↓Zb, ↓vdn, vup, Zo, Zh, Zi, Zn, Zl, List.map_cons, List.map_nil, cond_true, cond_false, aop, Zw, Zr, Zp, ev, sput, Zu, Zz, Yb, unK, Zd, Zx, Nat.reduceBEq, Nat.reduceAdd, Int.reduceBEq, Int.reduceBNe, Int.reduceLT, Zv, Ya, tup, tyf])
  clear hZ
  try clear Z
  refine Ye ?_
  simp (maxSteps := 2000000) only [s87, ↓Za, ↓Zk, ↓Zs, ↓Ze, ↓Zj, ↓Zt, ↓Zg, ↓Zm, ↓Zf, ↓Zc, ↓Zb, ↓vdn, vup, Zo, Zh, Zi, Zn, Zl, List.map_cons, List.map_nil, cond_true, cond_false, aop, Zw, Zr, Zp, ev, sput, Zu, Zz, Yb, unK, Zd, Zx, Nat.reduceBEq, Nat.reduceAdd, Int.reduceBEq, Int.reduceBNe, Int.reduceLT, Zv, Ya, tup, tyf]

theorem ownSl_clear {h : Yd} {v : Value} {xs : List Int} {i : Nat} (ho : OwnSl 3 h v xs) (hi : i ≤ xs.length) {K : Value → Value → Yd → Prop} (hk : ∀ w h', OwnSl 3 h' v (xs.take i ++ List.replicate (xs.length - i) 0) → Ext (fun j => Yq v = some j) h h' → K w (.tuple #[]) h') :
    Xf prog 22 v (some (Zy i)) none none (fun w => clearK prog h 22 w (K w)) := by
  have he : (elemOf' prog 22).isSome = true := by rw [We]; rfl
  have hfull : i = xs.length → xs.take i ++ List.replicate (xs.length - i) 0 = xs := fun h => by rw [h, Nat.sub_self, List.take_length]; simp
  rcases ho with ⟨rfl, rfl⟩ | ⟨b, ys, rfl, hb⟩
  · simp only [List.length_nil, Nat.le_zero_eq] at hi
    subst hi
    have h1 := hk (.slice none 0 0) h (.inl ⟨rfl, rfl⟩) (Ext.refl _ _)
    show _ ∧ _ ∧ _ ∧ _ ∧ _
    exact ⟨by simp [We, Xk], rfl, rfl, rfl, he, h1⟩
  · have hsplice : Yp (xs ++ ys) i (List.replicate (xs.length - i) 0) = xs.take i ++ List.replicate (xs.length - i) 0 ++ ys := by
      rw [Yp, List.length_replicate, List.take_append_of_le_length hi, show i + (xs.length - i) = xs.length by omega, List.drop_left]
    have hsto : ∀ w, i < xs.length → storesK h b i (List.replicate (xs.length - i) (.int .i64 0)) (fun h' => K w (.tuple #[]) h') := fun w h1 => by
      have e1 : Xl (List.replicate (xs.length - i) (Value.int .i64 0)) = some (List.replicate (xs.length - i) 0) := by
        have := intsOf_map' (List.replicate (xs.length - i) 0)
        rw [List.map_replicate] at this; exact this
      refine ⟨by simp [List.all_eq_true, one], ?_⟩
      simp only [hb, e1]
      refine ⟨by rw [List.length_replicate, List.length_append]; omega, ?_⟩
      rw [hsplice]
      exact hk w _ (.inr ⟨b, ys, by rw [List.length_append, List.length_take, List.length_replicate, Nat.min_eq_left hi, show i + (xs.length - i) = xs.length by omega], by rw [List.getElem?_set_self (Yx hb)]⟩) (Ext.set _ rfl)
    have hzb : (elemOf' prog 22).bind (Wb prog) = some [.int .i64 0] := by rw [We, Option.bind_some, zero_3]
    simp only [Xf, We, Xk, bnd]
    refine ⟨by omega, by omega, by omega, fun h => (by cases h), fun _ => ?_⟩
    by_cases h0 : i = 0
    · subst h0
      refine .inl ⟨rfl, he, fun hn => ?_, fun hn => ?_⟩
      · rw [Int.toNat_natCast] at hn
        have h1 := hfull (by omega)
        exact hk _ h (by rw [h1]; exact .inr ⟨b, ys, rfl, hb⟩) (Ext.refl _ _)
      · rw [Int.toNat_natCast] at hn
        rw [hzb, Int.toNat_natCast]; exact hsto _ (by omega)
    · refine .inr ⟨by omega, ?_⟩
      by_cases hl : i < xs.length
      · refine .inl ⟨by omega, by omega, he, fun hn => by omega, fun hn => ?_⟩
        rw [hzb]
        have e2 : ((xs.length : Int) - ((i : Nat) : Int)).toNat = xs.length - i := by omega
        have e3 : 0 + ((i : Nat) : Int).toNat * 1 = i := by simp
        rw [e2, e3]; exact hsto _ hl
      · have h1 := hfull (by omega)
        exact .inr ⟨by omega, he, hk _ h (by rw [h1]; exact .inr ⟨b, ys, rfl, hb⟩) (Ext.refl _ _)⟩

def stay (p : Int → Bool) (xs : List Int) (j : Nat) : Nat := ((xs.take j).filter fun x => !p x).length
theorem stay_le (p : Int → Bool) (xs : List Int) (j : Nat) : stay p xs j ≤ j := Nat.le_trans (List.length_filter_le _ _) (by rw [List.length_take]; omega)
theorem take_snocI {xs : List Int} {j : Nat} (hj : j < xs.length) : xs.take (j + 1) = xs.take j ++ [xs.getD j 0] := by
  rw [List.take_succ, List.getElem?_eq_getElem hj, Option.toList_some, List.getD, List.getElem?_eq_getElem hj]; rfl
theorem stay_hit {p : Int → Bool} {xs : List Int} {j : Nat} (hj : j < xs.length) (hp : p (xs.getD j 0) = true) : (xs.take (j + 1)).filter (fun x => !p x) = (xs.take j).filter fun x => !p x := by
  rw [take_snocI hj, List.filter_append, List.filter_cons, List.filter_nil, hp]; simp
theorem stay_miss {p : Int → Bool} {xs : List Int} {j : Nat} (hj : j < xs.length) (hp : p (xs.getD j 0) = false) : (xs.take (j + 1)).filter (fun x => !p x) = ((xs.take j).filter fun x => !p x) ++ [xs.getD j 0] := by
  rw [take_snocI hj, List.filter_append, List.filter_cons, List.filter_nil, hp]; simp
structure Dl (p : Int → Bool) (xs : List Int) (j : Nat) (ys : List Int) : Prop where
  len : ys.length = xs.length
  tk : ys.take (stay p xs j) = (xs.take j).filter fun x => !p x
  dr : ys.drop j = xs.drop j
theorem Dl.get {p : Int → Bool} {xs ys : List Int} {j k : Nat} (d : Dl p xs j ys) (h : j ≤ k) : ys.getD k 0 = xs.getD k 0 := by
  have h1 : (ys.drop j)[k - j]? = (xs.drop j)[k - j]? := by rw [d.dr]
  rw [List.getElem?_drop, List.getElem?_drop, show j + (k - j) = k by omega] at h1
  rw [List.getD, h1, List.getD]
theorem Dl.hit {p : Int → Bool} {xs ys : List Int} {j : Nat} (d : Dl p xs j ys) (hj : j < xs.length) (hp : p (xs.getD j 0) = true) : Dl p xs (j + 1) ys ∧ stay p xs (j + 1) = stay p xs j := by
  have h1 : stay p xs (j + 1) = stay p xs j := by rw [stay, stay_hit hj hp]; rfl
  refine ⟨⟨d.len, by rw [h1, stay_hit hj hp]; exact d.tk, ?_⟩, h1⟩
  have := congrArg (List.drop 1) d.dr
  rw [List.drop_drop, List.drop_drop] at this
  exact this
theorem Dl.miss {p : Int → Bool} {xs ys : List Int} {j : Nat} (d : Dl p xs j ys) (hj : j < xs.length) (hp : p (xs.getD j 0) = false) : Dl p xs (j + 1) (ys.set (stay p xs j) (xs.getD j 0)) ∧ stay p xs (j + 1) = stay p xs j + 1 := by
  have h1 : stay p xs (j + 1) = stay p xs j + 1 := by rw [stay, stay_miss hj hp, List.length_append]; rfl
  have hs := stay_le p xs j
  have hl := d.len
  refine ⟨⟨by rw [List.length_set]; exact d.len, ?_, ?_⟩, h1⟩
  · rw [h1, stay_miss hj hp, ← d.tk, take_snocI (by rw [List.length_set]; omega), List.take_set_of_le (Nat.le_refl _), List.getD, List.getElem?_set_self (by omega)]; rfl
  · have := congrArg (List.drop 1) d.dr
    rw [List.drop_drop, List.drop_drop] at this
    rw [List.drop_set_of_lt (by omega)]
    exact this
theorem s81_callW [Tabs Tryd.prog] {args : List Value} {h : Yd} {Q : Value → Yd → Prop} (hsz : args.length ≤ 42) (hk : AWS Tryd.prog 42 s81 (Zv Tryd.prog [.tmp 4] Q) (Zp 0 args) h) : ACall Tryd.prog 81 args h Q :=
  Xq Tryd.func81 rfl (enters_of Tryd.func81 (by kernel_rfl) rfl) rfl rfl (by decide) s81_strip s81_ok hsz hk
theorem delete_call [Tabs prog] {h : Yd} {v : Value} {xs : List Int} {g : FuncId} {caps : Array Value} {p : Int → Bool} (ho : OwnSl 3 h v xs) (hl : xs.length < 1099511627776) (hp : ∀ H, Ext (fun b => Yq v = some b) h H → ∀ x ∈ xs, APure prog g (Zy x :: caps.toList) H (.bool (p x))) :
    ACall prog 81 [v, .func (.func g) #[] caps] h fun r h' => IntSl h' r (xs.filter fun x => !p x) ∧ Ext (fun b => Yq v = some b) h h' := by
  refine s81_callW (by simp) ?_
  simp only [s81]
  refine Yc fun N17 hN17 => ?_
  simp (maxSteps := 2000000) only [s81, ↓Za, ↓Zk, ↓Zs, ↓Ze, ↓Zj, ↓Zt, ↓Zg, ↓Zm, ↓Zf, ↓Zc, ↓Zb, ↓vdn, vup, Zo, Zh, Zi, Zn, Zl, List.map_cons, List.map_nil, cond_true, cond_false, aop, Zw, Zr, Zp, ev, sput, Zu, Zz, Yb, unK, Zd, Zx, Nat.reduceBEq, Nat.reduceAdd, Int.reduceBEq, Int.reduceBNe, Int.reduceLT, Zv, Ya, tup, tyf]
  refine hN17 [(0, v), (1, .func (.func g) #[] caps), (4, .slice none 0 0)] _ _ ?_ (by simp (maxSteps := 2000000) only [↓Za, ↓Zk, ↓Zs, ↓Ze, ↓Zj, ↓Zt, ↓Zg, ↓Zm, ↓Zf, ↓Zc, ↓Zb, ↓vdn, vup, Zo, Zh, Zi, Zn, Zl, List.map_cons, List.map_nil, cond_true, cond_false, aop, Zw, Zr, Zp, ev, sput, Zu, Zz, Yb, unK, Zd, Zx, Nat.reduceBEq, Nat.reduceAdd, Int.reduceBEq, Int.reduceBNe, Int.reduceLT, Zv, Ya, tup, tyf])
  clear hN17
  try clear N17
  refine Yc fun N18 hN18 => ?_
  simp (maxSteps := 2000000) only [s81, ↓Za, ↓Zk, ↓Zs, ↓Ze, ↓Zj, ↓Zt, ↓Zg, ↓Zm, ↓Zf, ↓Zc, ↓Zb, ↓vdn, vup, Zo, Zh, Zi, Zn, Zl, List.map_cons, List.map_nil, cond_true, cond_false, aop, Zw, Zr, Zp, ev, sput, Zu, Zz, Yb, unK, Zd, Zx, Nat.reduceBEq, Nat.reduceAdd, Int.reduceBEq, Int.reduceBNe, Int.reduceLT, Zv, Ya, tup, tyf, Yv, List.nil_append, List.append_nil, List.toList_toArray, List.cons_append]
  refine (index_call ho.int (by omega) (hp _ (Ext.refl _ _))).mono ?_
  rintro _ h ⟨rfl, rfl⟩
  refine hN18 [(0, v), (1, .func (.func g) #[] caps), (4, .slice none 0 0), (5, Zy (idxF p xs))] _ _ ?_ (by simp (maxSteps := 2000000) only [↓Za, ↓Zk, ↓Zs, ↓Ze, ↓Zj, ↓Zt, ↓Zg, ↓Zm, ↓Zf, ↓Zc, ↓Zb, ↓vdn, vup, Zo, Zh, Zi, Zn, Zl, List.map_cons, List.map_nil, cond_true, cond_false, aop, Zw, Zr, Zp, ev, sput, Zu, Zz, Yb, unK, Zd, Zx, Nat.reduceBEq, Nat.reduceAdd, Int.reduceBEq, Int.reduceBNe, Int.reduceLT, Zv, Ya, tup, tyf])
  clear hN18
  try clear N18
  cases hany : xs.any p with
  | false =>
    have hix : idxF p xs = -1 := by rw [idxF, hany]; rfl
    have hf : xs.filter (fun x => !p x) = xs := List.filter_eq_self.2 fun x hx => by
      have := List.any_eq_false.1 hany x hx
      simpa using this
    rw [hix]
    refine Yf fun M hM => ?_
    refine Yc fun N19 hN19 => ?_
    simp (maxSteps := 2000000) only [s81, ↓Za, ↓Zk, ↓Zs, ↓Ze, ↓Zj, ↓Zt, ↓Zg, ↓Zm, ↓Zf, ↓Zc, ↓Zb, ↓vdn, vup, Zo, Zh, Zi, Zn, Zl, List.map_cons, List.map_nil, cond_true, cond_false, aop, Zw, Zr, Zp, ev, sput, Zu, Zz, Yb, unK, Zd, Zx, Nat.reduceBEq, Nat.reduceAdd, Int.reduceBEq, Int.reduceBNe, Int.reduceLT, Zv, Ya, tup, tyf]
    refine hN19 [(0, v), (1, .func (.func g) #[] caps), (4, .slice none 0 0), (5, .int .i64 (-1)), (12, .bool true)] _ _ ?_ (by simp (maxSteps := 2000000) only [↓Za, ↓Zk, ↓Zs, ↓Ze, ↓Zj, ↓Zt, ↓Zg, ↓Zm, ↓Zf, ↓Zc, ↓Zb, ↓vdn, vup, Zo, Zh, Zi, Zn, Zl, List.map_cons, List.map_nil, cond_true, cond_false, aop, Zw, Zr, Zp, ev, sput, Zu, Zz, Yb, unK, Zd, Zx, Nat.reduceBEq, Nat.reduceAdd, Int.reduceBEq, Int.reduceBNe, Int.reduceLT, Zv, Ya, tup, tyf])
    clear hN19
    try clear N19
    refine Xm rfl ?_
    refine Ye ?_
    simp (maxSteps := 2000000) only [s81, ↓Za, ↓Zk, ↓Zs, ↓Ze, ↓Zj, ↓Zt, ↓Zg, ↓Zm, ↓Zf, ↓Zc, ↓Zb, ↓vdn, vup, Zo, Zh, Zi, Zn, Zl, List.map_cons, List.map_nil, cond_true, cond_false, aop, Zw, Zr, Zp, ev, sput, Zu, Zz, Yb, unK, Zd, Zx, Nat.reduceBEq, Nat.reduceAdd, Int.reduceBEq, Int.reduceBNe, Int.reduceLT, Zv, Ya, tup, tyf]
    exact ⟨by rw [hf]; exact ho.int, Ext.refl _ _⟩
  | true =>
    obtain ⟨i0, hi0⟩ : ∃ i0, xs.findIdx p = i0 := ⟨_, rfl⟩
    have hix : idxF p xs = ((i0 : Nat) : Int) := by rw [idxF, if_pos hany, hi0]
    obtain ⟨x0, hx0, hpx0⟩ := List.any_eq_true.1 hany
    have hlt : i0 < xs.length := by rw [← hi0]; exact List.findIdx_lt_length_of_exists ⟨x0, hx0, hpx0⟩
    have hfs := (List.findIdx_eq hlt).1 hi0
    have hp0 : p (xs.getD i0 0) = true := by rw [List.getD, List.getElem?_eq_getElem hlt]; exact hfs.1
    have hall : (xs.take i0).filter (fun x => !p x) = xs.take i0 := List.filter_eq_self.2 fun x hx => by
      obtain ⟨j, hj, rfl⟩ := List.mem_iff_getElem.1 hx
      rw [List.length_take] at hj
      rw [List.getElem_take, hfs.2 j (by omega)]; rfl
    have hst0 : stay p xs i0 = i0 := by rw [stay, hall, List.length_take]; omega
    have d0 : Dl p xs i0 xs := ⟨rfl, by rw [hst0, hall], rfl⟩
    obtain ⟨d1, hst1⟩ := d0.hit hlt hp0
    rw [hst0] at hst1
    have hne : (((i0 : Nat) : Int) == -1) = false := by rw [beq_eq_false_iff_ne]; omega
    rw [hix]
    refine Yf fun M hM => ?_
    refine Yc fun N20 hN20 => ?_
    simp (maxSteps := 2000000) only [s81, ↓Za, ↓Zk, ↓Zs, ↓Ze, ↓Zj, ↓Zt, ↓Zg, ↓Zm, ↓Zf, ↓Zc, ↓Zb, ↓vdn, vup, Zo, Zh, Zi, Zn, Zl, List.map_cons, List.map_nil, cond_true, cond_false, aop, Zw, Zr, Zp, ev, sput, Zu, Zz, Yb, unK, Zd, Zx, Nat.reduceBEq, Nat.reduceAdd, Int.reduceBEq, Int.reduceBNe, Int.reduceLT, Zv, Ya, tup, tyf, hne]
    refine hN20 [(0, v), (1, .func (.func g) #[] caps), (4, .slice none 0 0), (5, Zy (i0 : Nat)), (12, .bool false)] _ _ ?_ (by simp (maxSteps := 2000000) only [↓Za, ↓Zk, ↓Zs, ↓Ze, ↓Zj, ↓Zt, ↓Zg, ↓Zm, ↓Zf, ↓Zc, ↓Zb, ↓vdn, vup, Zo, Zh, Zi, Zn, Zl, List.map_cons, List.map_nil, cond_true, cond_false, aop, Zw, Zr, Zp, ev, sput, Zu, Zz, Yb, unK, Zd, Zx, Nat.reduceBEq, Nat.reduceAdd, Int.reduceBEq, Int.reduceBNe, Int.reduceLT, Zv, Ya, tup, tyf])
    clear hN20
    try clear N20
    refine Yy rfl ?_
    refine Ye ?_
    simp (maxSteps := 2000000) only [s81, ↓Za, ↓Zk, ↓Zs, ↓Ze, ↓Zj, ↓Zt, ↓Zg, ↓Zm, ↓Zf, ↓Zc, ↓Zb, ↓vdn, vup, Zo, Zh, Zi, Zn, Zl, List.map_cons, List.map_nil, cond_true, cond_false, aop, Zw, Zr, Zp, ev, sput, Zu, Zz, Yb, unK, Zd, Zx, Nat.reduceBEq, Nat.reduceAdd, Int.reduceBEq, Int.reduceBNe, Int.reduceLT, Zv, Ya, tup, tyf]
    refine hM [(0, v), (1, .func (.func g) #[] caps), (4, .slice none 0 0), (5, Zy (i0 : Nat))] _ _ ?_ (by simp (maxSteps := 2000000) only [↓Za, ↓Zk, ↓Zs, ↓Ze, ↓Zj, ↓Zt, ↓Zg, ↓Zm, ↓Zf, ↓Zc, ↓Zb, ↓vdn, vup, Zo, Zh, Zi, Zn, Zl, List.map_cons, List.map_nil, cond_true, cond_false, aop, Zw, Zr, Zp, ev, sput, Zu, Zz, Yb, unK, Zd, Zx, Nat.reduceBEq, Nat.reduceAdd, Int.reduceBEq, Int.reduceBNe, Int.reduceLT, Zv, Ya, tup, tyf])
    clear hM
    try clear M
    refine Yf fun Z hZ => ?_
    refine Yc fun N21 hN21 => ?_
    simp (maxSteps := 2000000) only [s81, ↓Za, ↓Zk, ↓Zs, ↓Ze, ↓Zj, ↓Zt, ↓Zg, ↓Zm, ↓Zf, ↓Zc, ↓Zb, ↓vdn, vup, Zo, Zh, Zi, Zn, Zl, List.map_cons, List.map_nil, cond_true, cond_false, aop, Zw, Zr, Zp, ev, sput, Zu, Zz, Yb, unK, Zd, Zx, Nat.reduceBEq, Nat.reduceAdd, Int.reduceBEq, Int.reduceBNe, Int.reduceLT, Zv, Ya, tup, tyf, add1 (show i0 < 9223372036854775807 by omega)]
    refine hN21 [(0, v), (1, .func (.func g) #[] caps), (4, .slice none 0 0), (5, Zy (i0 : Nat)), (6, Zy (i0 + 1 : Nat))] _ _ ?_ (by simp (maxSteps := 2000000) only [↓Za, ↓Zk, ↓Zs, ↓Ze, ↓Zj, ↓Zt, ↓Zg, ↓Zm, ↓Zf, ↓Zc, ↓Zb, ↓vdn, vup, Zo, Zh, Zi, Zn, Zl, List.map_cons, List.map_nil, cond_true, cond_false, aop, Zw, Zr, Zp, ev, sput, Zu, Zz, Yb, unK, Zd, Zx, Nat.reduceBEq, Nat.reduceAdd, Int.reduceBEq, Int.reduceBNe, Int.reduceLT, Zv, Ya, tup, tyf])
    clear hN21
    try clear N21
    refine Ym ?_
    refine Yg fun Q hQ => ?_
    refine Xu (γ := Nat × List Int × Yd) (fun s => s.1 ≤ xs.length ∧ Dl p xs s.1 s.2.1 ∧ OwnSl 3 s.2.2 v s.2.1 ∧ Ext (fun b => Yq v = some b) h s.2.2)
      (fun s => ([(0, v), (1, .func (.func g) #[] caps), (4, .slice none 0 0), (5, Zy (stay p xs s.1 : Nat)), (6, Zy (s.1 : Nat))], s.2.2)) (fun s => xs.length - s.1) (i0 + 1, xs, h) ⟨hlt, d1, ho, Ext.refl _ _⟩ (by simp (maxSteps := 2000000) only [↓Za, ↓Zk, ↓Zs, ↓Ze, ↓Zj, ↓Zt, ↓Zg, ↓Zm, ↓Zf, ↓Zc, ↓Zb, ↓vdn, vup, Zo, Zh, Zi, Zn, Zl, List.map_cons, List.map_nil, cond_true, cond_false, aop, Zw, Zr, Zp, ev, sput, Zu, Zz, Yb, unK, Zd, Zx, Nat.reduceBEq, Nat.reduceAdd, Int.reduceBEq, Int.reduceBNe, Int.reduceLT, Zv, Ya, tup, tyf, hst1]) rfl ?_
    rintro ⟨j, ys, H⟩ ⟨hj, d, hy, hE⟩
    simp only at hj d hy hE
    refine Yg fun Q2 hQ2 => ?_
    simp only [l81_0]
    have hyl := d.len
    have hsl := stay_le p xs j
    by_cases hjin : (j : Int) < xs.length
    · have hj' : j < xs.length := by omega
      have hjY : j < ys.length := by omega
      have hxm : xs.getD j 0 ∈ xs := by rw [List.getD, List.getElem?_eq_getElem hj']; exact List.getElem_mem hj'
      refine Yf fun A hA => ?_
      refine Yc fun N22 hN22 => ?_
      simp (maxSteps := 2000000) only [s81, ↓Za, ↓Zk, ↓Zs, ↓Ze, ↓Zj, ↓Zt, ↓Zg, ↓Zm, ↓Zf, ↓Zc, ↓Zb, ↓vdn, vup, Zo, Zh, Zi, Zn, Zl, List.map_cons, List.map_nil, cond_true, cond_false, aop, Zw, Zr, Zp, ev, sput, Zu, Zz, Yb, unK, Zd, Zx, Nat.reduceBEq, Nat.reduceAdd, Int.reduceBEq, Int.reduceBNe, Int.reduceLT, Zv, Ya, tup, tyf, hy.int.len, hyl, hjin]
      refine hN22 [(0, v), (1, .func (.func g) #[] caps), (4, .slice none 0 0), (5, Zy (stay p xs j : Nat)), (6, Zy (j : Nat)), (19, .bool true)] _ _ ?_ (by simp (maxSteps := 2000000) only [↓Za, ↓Zk, ↓Zs, ↓Ze, ↓Zj, ↓Zt, ↓Zg, ↓Zm, ↓Zf, ↓Zc, ↓Zb, ↓vdn, vup, Zo, Zh, Zi, Zn, Zl, List.map_cons, List.map_nil, cond_true, cond_false, aop, Zw, Zr, Zp, ev, sput, Zu, Zz, Yb, unK, Zd, Zx, Nat.reduceBEq, Nat.reduceAdd, Int.reduceBEq, Int.reduceBNe, Int.reduceLT, Zv, Ya, tup, tyf])
      clear hN22
      try clear N22
      refine Xm rfl ?_
      refine Ye ?_
      simp (maxSteps := 2000000) only [s81, ↓Za, ↓Zk, ↓Zs, ↓Ze, ↓Zj, ↓Zt, ↓Zg, ↓Zm, ↓Zf, ↓Zc, ↓Zb, ↓vdn, vup, Zo, Zh, Zi, Zn, Zl, List.map_cons, List.map_nil, cond_true, cond_false, aop, Zw, Zr, Zp, ev, sput, Zu, Zz, Yb, unK, Zd, Zx, Nat.reduceBEq, Nat.reduceAdd, Int.reduceBEq, Int.reduceBNe, Int.reduceLT, Zv, Ya, tup, tyf]
      refine hA [(0, v), (1, .func (.func g) #[] caps), (4, .slice none 0 0), (5, Zy (stay p xs j : Nat)), (6, Zy (j : Nat))] _ _ ?_ (by simp (maxSteps := 2000000) only [↓Za, ↓Zk, ↓Zs, ↓Ze, ↓Zj, ↓Zt, ↓Zg, ↓Zm, ↓Zf, ↓Zc, ↓Zb, ↓vdn, vup, Zo, Zh, Zi, Zn, Zl, List.map_cons, List.map_nil, cond_true, cond_false, aop, Zw, Zr, Zp, ev, sput, Zu, Zz, Yb, unK, Zd, Zx, Nat.reduceBEq, Nat.reduceAdd, Int.reduceBEq, Int.reduceBNe, Int.reduceLT, Zv, Ya, tup, tyf])
      clear hA
      try clear A
      refine Yf fun B hB => ?_
      refine Ym ?_
      refine Yc fun N23 hN23 => ?_
      simp (maxSteps := 2000000) only [s81, ↓Za, ↓Zk, ↓Zs, ↓Ze, ↓Zj, ↓Zt, ↓Zg, ↓Zm, ↓Zf, ↓Zc, ↓Zb, ↓vdn, vup, Zo, Zh, Zi, Zn, Zl, List.map_cons, List.map_nil, cond_true, cond_false, aop, Zw, Zr, Zp, ev, sput, Zu, Zz, Yb, unK, Zd, Zx, Nat.reduceBEq, Nat.reduceAdd, Int.reduceBEq, Int.reduceBNe, Int.reduceLT, Zv, Ya, tup, tyf, hy.int.idx We Xk hjY, hy.int.load Xj hjY, d.get (Nat.le_refl j)]
      refine hN23 [(0, v), (1, .func (.func g) #[] caps), (4, .slice none 0 0), (5, Zy (stay p xs j : Nat)), (6, Zy (j : Nat)), (7, Zy (xs.getD j 0))] _ _ ?_ (by simp (maxSteps := 2000000) only [↓Za, ↓Zk, ↓Zs, ↓Ze, ↓Zj, ↓Zt, ↓Zg, ↓Zm, ↓Zf, ↓Zc, ↓Zb, ↓vdn, vup, Zo, Zh, Zi, Zn, Zl, List.map_cons, List.map_nil, cond_true, cond_false, aop, Zw, Zr, Zp, ev, sput, Zu, Zz, Yb, unK, Zd, Zx, Nat.reduceBEq, Nat.reduceAdd, Int.reduceBEq, Int.reduceBNe, Int.reduceLT, Zv, Ya, tup, tyf])
      clear hN23
      try clear N23
      refine Yc fun N24 hN24 => ?_
      simp (maxSteps := 2000000) only [s81, ↓Za, ↓Zk, ↓Zs, ↓Ze, ↓Zj, ↓Zt, ↓Zg, ↓Zm, ↓Zf, ↓Zc, ↓Zb, ↓vdn, vup, Zo, Zh, Zi, Zn, Zl, List.map_cons, List.map_nil, cond_true, cond_false, aop, Zw, Zr, Zp, ev, sput, Zu, Zz, Yb, unK, Zd, Zx, Nat.reduceBEq, Nat.reduceAdd, Int.reduceBEq, Int.reduceBNe, Int.reduceLT, Zv, Ya, tup, tyf, Yv, List.nil_append, List.append_nil, List.toList_toArray, List.cons_append]
      refine (hp H hE _ hxm).mono ?_
      rintro _ H ⟨rfl, rfl⟩
      simp (maxSteps := 2000000) only [s81, ↓Za, ↓Zk, ↓Zs, ↓Ze, ↓Zj, ↓Zt, ↓Zg, ↓Zm, ↓Zf, ↓Zc, ↓Zb, ↓vdn, vup, Zo, Zh, Zi, Zn, Zl, List.map_cons, List.map_nil, cond_true, cond_false, aop, Zw, Zr, Zp, ev, sput, Zu, Zz, Yb, unK, Zd, Zx, Nat.reduceBEq, Nat.reduceAdd, Int.reduceBEq, Int.reduceBNe, Int.reduceLT, Zv, Ya, tup, tyf]
      refine hN24 [(0, v), (1, .func (.func g) #[] caps), (4, .slice none 0 0), (5, Zy (stay p xs j : Nat)), (6, Zy (j : Nat)), (7, Zy (xs.getD j 0)), (29, .bool (!p (xs.getD j 0)))] _ _ ?_ (by simp (maxSteps := 2000000) only [↓Za, ↓Zk, ↓Zs, ↓Ze, ↓Zj, ↓Zt, ↓Zg, ↓Zm, ↓Zf, ↓Zc, ↓Zb, ↓vdn, vup, Zo, Zh, Zi, Zn, Zl, List.map_cons, List.map_nil, cond_true, cond_false, aop, Zw, Zr, Zp, ev, sput, Zu, Zz, Yb, unK, Zd, Zx, Nat.reduceBEq, Nat.reduceAdd, Int.reduceBEq, Int.reduceBNe, Int.reduceLT, Zv, Ya, tup, tyf])
      clear hN24
      try clear N24
      cases hpx : p (xs.getD j 0) with
      | true =>
        obtain ⟨d', hs'⟩ := d.hit hj' hpx
        refine Yy rfl ?_
        refine Ye ?_
        simp (maxSteps := 2000000) only [s81, ↓Za, ↓Zk, ↓Zs, ↓Ze, ↓Zj, ↓Zt, ↓Zg, ↓Zm, ↓Zf, ↓Zc, ↓Zb, ↓vdn, vup, Zo, Zh, Zi, Zn, Zl, List.map_cons, List.map_nil, cond_true, cond_false, aop, Zw, Zr, Zp, ev, sput, Zu, Zz, Yb, unK, Zd, Zx, Nat.reduceBEq, Nat.reduceAdd, Int.reduceBEq, Int.reduceBNe, Int.reduceLT, Zv, Ya, tup, tyf]
        refine hB [(0, v), (1, .func (.func g) #[] caps), (4, .slice none 0 0), (5, Zy (stay p xs j : Nat)), (6, Zy (j : Nat))] _ _ ?_ (by simp (maxSteps := 2000000) only [↓Za, ↓Zk, ↓Zs, ↓Ze, ↓Zj, ↓Zt, ↓Zg, ↓Zm, ↓Zf, ↓Zc, ↓Zb, ↓vdn, vup, Zo, Zh, Zi, Zn, Zl, List.map_cons, List.map_nil, cond_true, cond_false, aop, Zw, Zr, Zp, ev, sput, Zu, Zz, Yb, unK, Zd, Zx, Nat.reduceBEq, Nat.reduceAdd, Int.reduceBEq, Int.reduceBNe, Int.reduceLT, Zv, Ya, tup, tyf])
        clear hB
        try clear B
        refine Ye ?_
        simp (maxSteps := 2000000) only [s81, ↓Za, ↓Zk, ↓Zs, ↓Ze, ↓Zj, ↓Zt, ↓Zg, ↓Zm, ↓Zf, ↓Zc, ↓Zb, ↓vdn, vup, Zo, Zh, Zi, Zn, Zl, List.map_cons, List.map_nil, cond_true, cond_false, aop, Zw, Zr, Zp, ev, sput, Zu, Zz, Yb, unK, Zd, Zx, Nat.reduceBEq, Nat.reduceAdd, Int.reduceBEq, Int.reduceBNe, Int.reduceLT, Zv, Ya, tup, tyf, add1 (show j < 9223372036854775807 by omega)]
        exact hQ2 _ _ _ ⟨(j + 1, ys, H), ⟨hj', d', hy, hE⟩, by simp only; omega, by simp (maxSteps := 2000000) only [↓Za, ↓Zk, ↓Zs, ↓Ze, ↓Zj, ↓Zt, ↓Zg, ↓Zm, ↓Zf, ↓Zc, ↓Zb, ↓vdn, vup, Zo, Zh, Zi, Zn, Zl, List.map_cons, List.map_nil, cond_true, cond_false, aop, Zw, Zr, Zp, ev, sput, Zu, Zz, Yb, unK, Zd, Zx, Nat.reduceBEq, Nat.reduceAdd, Int.reduceBEq, Int.reduceBNe, Int.reduceLT, Zv, Ya, tup, tyf, hs'], rfl⟩
      | false =>
        obtain ⟨d', hs'⟩ := d.miss hj' hpx
        have hsY : stay p xs j < ys.length := by omega
        refine Xm rfl ?_
        refine Yc fun N25 hN25 => ?_
        simp (maxSteps := 2000000) only [s81, ↓Za, ↓Zk, ↓Zs, ↓Ze, ↓Zj, ↓Zt, ↓Zg, ↓Zm, ↓Zf, ↓Zc, ↓Zb, ↓vdn, vup, Zo, Zh, Zi, Zn, Zl, List.map_cons, List.map_nil, cond_true, cond_false, aop, Zw, Zr, Zp, ev, sput, Zu, Zz, Yb, unK, Zd, Zx, Nat.reduceBEq, Nat.reduceAdd, Int.reduceBEq, Int.reduceBNe, Int.reduceLT, Zv, Ya, tup, tyf, hy.int.idx We Xk hsY]
        refine ownSl_store hy hsY fun G hy2 hE2 => ?_
        refine hN25 [(0, v), (1, .func (.func g) #[] caps), (4, .slice none 0 0), (5, Zy (stay p xs j : Nat)), (6, Zy (j : Nat)), (7, Zy (xs.getD j 0)), (29, .bool (!false))] _ _ ?_ (by simp (maxSteps := 2000000) only [↓Za, ↓Zk, ↓Zs, ↓Ze, ↓Zj, ↓Zt, ↓Zg, ↓Zm, ↓Zf, ↓Zc, ↓Zb, ↓vdn, vup, Zo, Zh, Zi, Zn, Zl, List.map_cons, List.map_nil, cond_true, cond_false, aop, Zw, Zr, Zp, ev, sput, Zu, Zz, Yb, unK, Zd, Zx, Nat.reduceBEq, Nat.reduceAdd, Int.reduceBEq, Int.reduceBNe, Int.reduceLT, Zv, Ya, tup, tyf])
        clear hN25
        try clear N25
        refine Ye ?_
        simp (maxSteps := 2000000) only [s81, ↓Za, ↓Zk, ↓Zs, ↓Ze, ↓Zj, ↓Zt, ↓Zg, ↓Zm, ↓Zf, ↓Zc, ↓Zb, ↓vdn, vup, Zo, Zh, Zi, Zn, Zl, List.map_cons, List.map_nil, cond_true, cond_false, aop, Zw, Zr, Zp, ev, sput, Zu, Zz, Yb, unK, Zd, Zx, Nat.reduceBEq, Nat.reduceAdd, Int.reduceBEq, Int.reduceBNe, Int.reduceLT, Zv, Ya, tup, tyf, add1 (show stay p xs j < 9223372036854775807 by omega)]
        refine hB [(0, v), (1, .func (.func g) #[] caps), (4, .slice none 0 0), (5, Zy (stay p xs j + 1 : Nat)), (6, Zy (j : Nat))] _ _ ?_ (by simp (maxSteps := 2000000) only [↓Za, ↓Zk, ↓Zs, ↓Ze, ↓Zj, ↓Zt, ↓Zg, ↓Zm, ↓Zf, ↓Zc, ↓Zb, ↓vdn, vup, Zo, Zh, Zi, Zn, Zl, List.map_cons, List.map_nil, cond_true, cond_false, aop, Zw, Zr, Zp, ev, sput, Zu, Zz, Yb, unK, Zd, Zx, Nat.reduceBEq, Nat.reduceAdd, Int.reduceBEq, Int.reduceBNe, Int.reduceLT, Zv, Ya, tup, tyf])
        clear hB
        try clear B
        refine Ye ?_
        simp (maxSteps := 2000000) only [s81, ↓Za, ↓Zk, ↓Zs, ↓Ze, ↓Zj, ↓Zt, ↓Zg, ↓Zm, ↓Zf, ↓Zc, ↓Zb, ↓vdn, vup, Zo, Zh, Zi, Zn, Zl, List.map_cons, List.map_nil, cond_true, cond_false, aop, Zw, Zr, Zp, ev, sput, Zu, Zz, Yb, unK, Zd, Zx, Nat.reduceBEq, Nat.reduceAdd, Int.reduceBEq, Int.reduceBNe, Int.reduceLT, Zv, Ya, tup, tyf, add1 (show j < 9223372036854775807 by omega)]
        exact hQ2 _ _ _ ⟨(j + 1, ys.set (stay p xs j) (xs.getD j 0), G), ⟨hj', d', hy2, hE.trans hE2⟩, by simp only; omega, by simp (maxSteps := 2000000) only [↓Za, ↓Zk, ↓Zs, ↓Ze, ↓Zj, ↓Zt, ↓Zg, ↓Zm, ↓Zf, ↓Zc, ↓Zb, ↓vdn, vup, Zo, Zh, Zi, Zn, Zl, List.map_cons, List.map_nil, cond_true, cond_false, aop, Zw, Zr, Zp, ev, sput, Zu, Zz, Yb, unK, Zd, Zx, Nat.reduceBEq, Nat.reduceAdd, Int.reduceBEq, Int.reduceBNe, Int.reduceLT, Zv, Ya, tup, tyf, hs'], rfl⟩
    obtain rfl : j = xs.length := by omega
    refine Yf fun A hA => ?_
    refine Yc fun N26 hN26 => ?_
    simp (maxSteps := 2000000) only [s81, ↓Za, ↓Zk, ↓Zs, ↓Ze, ↓Zj, ↓Zt, ↓Zg, ↓Zm, ↓Zf, ↓Zc, ↓Zb, ↓vdn, vup, Zo, Zh, Zi, Zn, Zl, List.map_cons, List.map_nil, cond_true, cond_false, aop, Zw, Zr, Zp, ev, sput, Zu, Zz, Yb, unK, Zd, Zx, Nat.reduceBEq, Nat.reduceAdd, Int.reduceBEq, Int.reduceBNe, Int.reduceLT, Zv, Ya, tup, tyf, hy.int.len, hyl, hjin]
    refine hN26 [(0, v), (1, .func (.func g) #[] caps), (4, .slice none 0 0), (5, Zy (stay p xs xs.length : Nat)), (6, Zy xs.length), (19, .bool false)] _ _ ?_ (by simp (maxSteps := 2000000) only [↓Za, ↓Zk, ↓Zs, ↓Ze, ↓Zj, ↓Zt, ↓Zg, ↓Zm, ↓Zf, ↓Zc, ↓Zb, ↓vdn, vup, Zo, Zh, Zi, Zn, Zl, List.map_cons, List.map_nil, cond_true, cond_false, aop, Zw, Zr, Zp, ev, sput, Zu, Zz, Yb, unK, Zd, Zx, Nat.reduceBEq, Nat.reduceAdd, Int.reduceBEq, Int.reduceBNe, Int.reduceLT, Zv, Ya, tup, tyf])
    clear hN26
    try clear N26
    refine Yy rfl ?_
    refine Ye ?_
    simp (maxSteps := 2000000) only [s81, ↓Za, ↓Zk, ↓Zs, ↓Ze, ↓Zj, ↓Zt, ↓Zg, ↓Zm, ↓Zf, ↓Zc, ↓Zb, ↓vdn, vup, Zo, Zh, Zi, Zn, Zl, List.map_cons, List.map_nil, cond_true, cond_false, aop, Zw, Zr, Zp, ev, sput, Zu, Zz, Yb, unK, Zd, Zx, Nat.reduceBEq, Nat.reduceAdd, Int.reduceBEq, Int.reduceBNe, Int.reduceLT, Zv, Ya, tup, tyf]
    refine hQ2 _ _ _ (hQ _ _ _ ?_)
    simp (maxSteps := 2000000) only [s81, ↓Za, ↓Zk, ↓Zs, ↓Ze, ↓Zj, ↓Zt, ↓Zg, ↓Zm, ↓Zf, ↓Zc, ↓Zb, ↓vdn, vup, Zo, Zh, Zi, Zn, Zl, List.map_cons, List.map_nil, cond_true, cond_false, aop, Zw, Zr, Zp, ev, sput, Zu, Zz, Yb, unK, Zd, Zx, Nat.reduceBEq, Nat.reduceAdd, Int.reduceBEq, Int.reduceBNe, Int.reduceLT, Zv, Ya, tup, tyf, if_true]
    refine hZ [(0, v), (1, .func (.func g) #[] caps), (4, .slice none 0 0), (5, Zy (stay p xs xs.length : Nat))] _ _ ?_ (by simp (maxSteps := 2000000) only [↓Za, ↓Zk, ↓Zs, ↓Ze, ↓Zj, ↓Zt, ↓Zg, ↓Zm, ↓Zf, ↓Zc, ↓Zb, ↓vdn, vup, Zo, Zh, Zi, Zn, Zl, List.map_cons, List.map_nil, cond_true, cond_false, aop, Zw, Zr, Zp, ev, sput, Zu, Zz, Yb, unK, Zd, Zx, Nat.reduceBEq, Nat.reduceAdd, Int.reduceBEq, Int.reduceBNe, Int.reduceLT, Zv, Ya, tup, tyf])
    clear hZ
    try clear Z
    clear hQ hQ2
    have hsY : stay p xs xs.length ≤ ys.length := by omega
    refine Yc fun N27 hN27 => ?_
    simp (maxSteps := 2000000) only [s81, ↓Za, ↓Zk, ↓Zs, ↓Ze, ↓Zj, ↓Zt, ↓Zg, ↓Zm, ↓Zf, ↓Zc, ↓Zb, ↓vdn, vup, Zo, Zh, Zi, Zn, Zl, List.map_cons, List.map_nil, cond_true, cond_false, aop, Zw, Zr, Zp, ev, sput, Zu, Zz, Yb, unK, Zd, Zx, Nat.reduceBEq, Nat.reduceAdd, Int.reduceBEq, Int.reduceBNe, Int.reduceLT, Zv, Ya, tup, tyf, Option.map_some, Option.map_none]
    refine ownSl_clear hy hsY fun _ G hy2 hE2 => ?_
    refine hN27 [(0, v), (1, .func (.func g) #[] caps), (4, .slice none 0 0), (5, Zy (stay p xs xs.length : Nat))] _ _ ?_ (by simp (maxSteps := 2000000) only [↓Za, ↓Zk, ↓Zs, ↓Ze, ↓Zj, ↓Zt, ↓Zg, ↓Zm, ↓Zf, ↓Zc, ↓Zb, ↓vdn, vup, Zo, Zh, Zi, Zn, Zl, List.map_cons, List.map_nil, cond_true, cond_false, aop, Zw, Zr, Zp, ev, sput, Zu, Zz, Yb, unK, Zd, Zx, Nat.reduceBEq, Nat.reduceAdd, Int.reduceBEq, Int.reduceBNe, Int.reduceLT, Zv, Ya, tup, tyf])
    clear hN27
    try clear N27
    refine Ye ?_
    simp (maxSteps := 2000000) only [s81, ↓Za, ↓Zk, ↓Zs, ↓Ze, ↓Zj, ↓Zt, ↓Zg, ↓Zm, ↓Zf, ↓Zc, ↓Zb, ↓vdn, vup, Zo, Zh, Zi, Zn, Zl, List.map_cons, List.map_nil, cond_true, cond_false, aop, Zw, Zr, Zp, ev, sput, Zu, Zz, Yb, unK, Zd, Zx, Nat.reduceBEq, Nat.reduceAdd, Int.reduceBEq, Int.reduceBNe, Int.reduceLT, Zv, Ya, tup, tyf, Option.map_some, Option.map_none]
    refine hy2.int.pre We Xk (by rw [List.length_append, List.length_take]; omega) fun w hw => ?_
    have htk := d.tk
    rw [List.take_length] at htk
    rw [List.take_append_of_le_length (by rw [List.length_take]; omega), List.take_take, Nat.min_self, htk] at hw
    exact ⟨hw, hE.trans hE2⟩
end Go.Proofs.Tryd.Am

namespace Bq

theorem left_triv {n : Nat} {M : Nat → Nat → Rat} : det n M ≠ 0 ↔ ∀ u : Nat → Rat, (∀ c, c < n → sumTo (fun r => u r * M c r) n = 0) → ∀ r, r < n → u r = 0 := by
  constructor
  · intro hd u hu r hr
    obtain ⟨x, hx⟩ := sol_ex hd (fun r' => if r' = r then 1 else 0)
    have h1 : sumTo (fun r' => u r' * (if r' = r then 1 else 0)) n = u r := by
      rw [← sum_one u hr]
      exact sumTo_congr fun r' _ => Rat.mul_comm _ _
    have h2 : sumTo (fun r' => u r' * (if r' = r then 1 else 0)) n = sumTo (fun r' => sumTo (fun c => x c * (u r' * M c r')) n) n := sumTo_congr fun r' hr' => by
      rw [← hx r' hr', ← sumTo_mul]
      exact sumTo_congr fun c _ => by grind
    rw [← h1, h2, sumTo_swap]
    refine sumTo_zero fun c hc => ?_
    rw [sumTo_mul, hu c hc, Rat.mul_zero]
  · intro h hd
    obtain ⟨u, ⟨r, hr, h0⟩, hu⟩ := left_ker n M hd
    exact h0 (h u hu r hr)
theorem det_rev {n : Nat} {M : Nat → Nat → Rat} : det n (fun c => M (n - 1 - c)) ≠ 0 ↔ det n M ≠ 0 := by
  rw [left_triv, left_triv]
  constructor
  · intro h u hu
    exact h u fun c hc => hu (n - 1 - c) (by omega)
  · intro h u hu
    refine h u fun c hc => ?_
    have := hu (n - 1 - c) (by omega)
    rw [show n - 1 - (n - 1 - c) = c by omega] at this
    exact this
def rowI (n : Nat) (sets : List Nat) (k : Nat) : List Int := (List.range n).map (fun i => if k < sets.length then (if (sets.getD k 0).testBit i then 1 else 0) else if i = k - sets.length then 1 else 0) ++ [if k < sets.length then 1 else 0]
theorem rowI_len (n : Nat) (sets : List Nat) (k : Nat) : (rowI n sets k).length = n + 1 := by simp [rowI]
theorem rowI_01 {n : Nat} {sets : List Nat} {k : Nat} : ∀ y ∈ rowI n sets k, y = 0 ∨ y = 1 := fun y hy => by
  rw [rowI, List.mem_append, List.mem_map, List.mem_singleton] at hy
  rcases hy with ⟨i, _, rfl⟩ | rfl
  · split <;> split <;> simp
  · split <;> simp
theorem rowI_get {n : Nat} {sets : List Nat} {k c : Nat} (hc : c < n) : (((rowI n sets k).getD c 0 : Int) : Rat) = rowA sets k c := by
  rw [rowI, List.getD, List.getElem?_append_left (by simpa using hc), List.getElem?_map, List.getElem?_range hc]
  simp only [Option.map_some, Option.getD_some]
  rw [rowA, bitQ]
  split <;> split <;> rfl
theorem rowI_end (n : Nat) (sets : List Nat) (k : Nat) : (((rowI n sets k).getD n 0 : Int) : Rat) = rhsA sets k := by
  rw [rowI, List.getD, List.getElem?_append_right (by simp)]
  simp only [List.length_map, List.length_range, Nat.sub_self, List.getElem?_cons_zero, Option.getD_some]
  rw [rhsA]
  split <;> rfl
def rowsI (n : Nat) (sets B : List Nat) : List (List Int) := B.map (rowI n sets)
theorem rowsI_get {n : Nat} {sets B : List Nat} {r : Nat} (hr : r < B.length) : (rowsI n sets B).getD r [] = rowI n sets (B.getD r 0) := by
  rw [rowsI, List.getD, List.getElem?_map, List.getD, List.getElem?_eq_getElem hr]; rfl
theorem pdet_row {n : Nat} {sets B : List Nat} (hl : B.length = n) : pdet n (rowsI n sets B) ≠ 0 ↔ det n (fun c r => Wl (rowA sets) B r c) ≠ 0 := by
  have h1 := pdet_det n (rowsI n sets B) (by rw [rowsI, List.length_map, hl])
  have h2 : det n (colsOf n (rowsI n sets B)) = det n (fun c => (fun c r => Wl (rowA sets) B r c) (n - 1 - c)) := Xn _ fun c r hc hr => by
    rw [colsOf, rowsI_get (by omega), rowI_get (by omega)]; rfl
  rw [← det_rev (M := fun c r => Wl (rowA sets) B r c), ← h2]
  have hτ : tau n ≠ 0 := fun h => by have := tau_sq n; rw [h] at this; simp at this
  constructor
  · intro h hc
    rw [hc, Rat.mul_zero] at h1
    exact h (Rat.intCast_eq_zero_iff.1 h1)
  · intro h hc
    rw [hc] at h1
    rcases Rat.mul_eq_zero.1 h1.symm with h3 | h3
    · exact hτ h3
    · exact h h3
theorem leaf_none {n : Nat} {sets B : List Nat} (h : pdet n (rowsI n sets B) = 0) : ∀ x, ¬ Corner n sets B x := fun x c => (pdet_row c.len).2 c.det h
theorem leaf_some {n : Nat} {sets B : List Nat} (hl : B.length = n) (h : pdet n (rowsI n sets B) ≠ 0) : ∃ y : Nat → Rat, (∀ j, j < n → ((pdet n ((rowsI n sets B).map (putR n j)) : Int) : Rat) = y j * ((pdet n (rowsI n sets B) : Int) : Rat)) ∧
    (∀ r, r < n → sumTo (fun c => y c * Wl (rowA sets) B r c) n = rhsA sets (B.getD r 0)) ∧ ∀ x, Corner n sets B x → ∀ i, i < n → x i = y i := by
  have hd := (pdet_row hl).1 h
  obtain ⟨y, hy⟩ := sol_ex hd fun r => rhsA sets (B.getD r 0)
  refine ⟨y, fun j hj => ?_, hy, fun x c i hi => Classical.byContradiction fun hne => ?_⟩
  · refine pdet_cram (by rw [rowsI, List.length_map, hl]) (fun r hr => by
      obtain ⟨k, _, rfl⟩ := List.mem_map.1 hr; exact rowI_len n sets k) (fun r hr => ?_) hj
    rw [rowsI_get (by omega), rowI_end, ← hy r hr]
    exact sumTo_congr fun c hc => by rw [rowI_get hc]; rfl
  · refine hd (ker_det (x := fun c => x c - y c) hi (fun hc => hne (by grind)) fun r hr => ?_)
    have h1 := c.sol r hr
    have h2 := hy r hr
    have e : sumTo (fun c => (x c - y c) * Wl (rowA sets) B r c) n = sumTo (fun c => x c * Wl (rowA sets) B r c) n + (-1) * sumTo (fun c => y c * Wl (rowA sets) B r c) n := by
      rw [← sumTo_mul, ← Xz]
      exact sumTo_congr fun c _ => by grind
    rw [e, h1, h2]; grind
end Bq

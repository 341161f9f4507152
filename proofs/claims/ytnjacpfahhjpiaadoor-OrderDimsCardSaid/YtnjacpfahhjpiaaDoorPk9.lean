/-
  order: the realizer; Real and Dim.
-/
import Derived.Test.YtnjacpfahhjpiaaDoorPk8
set_option linter.all false
namespace Go.Proofs.Tryd.Am
open Go.Am Ord
set_option maxRecDepth 100000
set_option maxHeartbeats 4000000

theorem shortest_up {P : List Nat → Bool} {N d s : Nat} {q : List Nat} (h : Xb P N d s = some q) : Xb P N d (s + 1) = some q := by rw [Xb, h]; rfl
theorem real_hit {o : List Int} {s : Nat} {q : List Nat} (h : Xb (sepB o) (cn o) 1 s = none) (hq : srch (sepB o) (cn o) 1 (s + 1) 0 [] = some q) (hs : s < 3) : realL o = q := by
  have h1 : Xb (sepB o) (cn o) 1 (s + 1) = some q := by rw [Xb, h, hq]; rfl
  have h3 : Xb (sepB o) (cn o) 1 3 = some q := by
    have : s = 0 ∨ s = 1 ∨ s = 2 := by omega
    rcases this with rfl | rfl | rfl
    · exact shortest_up (shortest_up h1)
    · exact shortest_up h1
    · exact h1
  rw [realL, h3]; rfl
theorem real_not3 {o : List Int} (ho : ord o = true) : Xb (sepB o) (cn o) 1 3 ≠ none := fun h => by
  obtain ⟨A, t, ha, hc, h1, h3, hA, hs⟩ := real_ex ho
  rw [shortest_none h t h1 h3 hc] at hs; cases hs
theorem real_q {o : List Int} {s : Nat} {q : List Nat} (hq : srch (sepB o) (cn o) 1 s 0 [] = some q) : q.length = s ∧ Cmp (cn o) 1 0 q ∧ sepB o q = true := by
  obtain ⟨t, rfl, h2, h3, h4⟩ := srch_some hq
  exact ⟨by simpa using h2, by simpa using h3, h4⟩
/-- The realizer's lines. -/
def realLL (o : List Int) : List (List Int) := (realL o).map fun k => Wz (lin o k)
theorem ext_pf {h B H : Zy} {pf : Nat} (h1 : Ext (fun _ => False) h B) (h2 : Ext (fun b => b = pf) B H) (hp : h.length ≤ pf) : Ext (fun _ => False) h H :=
  ⟨Nat.le_trans h1.1 h2.1, fun i hi _ => (h2.2 i (Nat.lt_of_lt_of_le hi h1.1) (by omega)).trans (h1.2 i hi id)⟩
theorem setEnd (g : Zy) (B C : Blk) : (g ++ [B]).set g.length C = g ++ [C] := by rw [List.set_append_right _ _ (Nat.le_refl _), Nat.sub_self]; rfl
theorem rdL_one {e2 : TypeId} {h : Zy} {v : Value} {Ls : List (List Int)} (hv : RdL e2 h v Ls) : one v = true := by
  obtain ⟨ws, h1, _⟩ := hv
  rcases h1 with ⟨rfl, _⟩ | ⟨b, o, sp, cap, c, e, ro, rfl, _⟩ <;> rfl

theorem s80_callW [Tabs Tryd.prog] {args : List Value} {h : Zy} {Q : Value → Zy → Prop} (hsz : args.length ≤ 62) (hk : AWS Tryd.prog 62 s80 (Zu Tryd.prog [.tmp 2] Q) (Zp 0 args) h) : ACall Tryd.prog 80 args h Q :=
  acall_w Tryd.func80 rfl (enters_of Tryd.func80 (by kernel_rfl) rfl) rfl rfl (by decide) s80_strip s80_ok hsz hk
theorem realizer_call [BitTab prog 1] {h : Zy} {o : List Int} (ho : ord o = true) : ACall prog 80 [ordV o] h fun r h' => RdL 3 h' r (realLL o) ∧ Ext (fun _ => False) h h' := by
  have hln := Xi ho
  have hcn := cn_le ho
  have hp := pow6 hln.2
  have sh : shp prog 121 = some (some 6) := shp_121
  have hLl : (linesI o).length = cn o := linesI_len o
  refine s80_callW (by simp) ?_
  simp only [s80]
  obtain ⟨g0, hg0⟩ : ∃ z, z = h ++ [Blk.cells (Wr o) 77 false] := ⟨_, rfl⟩
  have e0 : Ext (fun _ => False) h g0 := by rw [hg0]; exact Ext.app _ _ _
  have b1 : g0[h.length]? = some (.cells (Wr o) 77 false) := by rw [hg0]; exact Yp _ _
  refine Yc fun N1 hN1 => ?_
  simp (maxSteps := 2000000) only [s80, ↓Za, ↓Zn, ↓Zr, ↓Ze, ↓Zj, ↓Zs, ↓Zg, ↓Zh, ↓Zf, ↓Zb, ↓Zc, ↓vdn, vup, Zm, Zk, Zl, Zi, Zo, List.map_cons, List.map_nil, cond_true, cond_false, aop, Zv, Zq, Zp, ev, sput, Zt, Zz, Yb, unK, Zd, Zw, Nat.reduceBEq, Nat.reduceAdd, Int.reduceBEq, Int.reduceBNe, Int.reduceLT, Zu, Ya, tup, tyf, boxO esz_77, Xc]
  rw [← hg0]
  refine hN1 [(1, .pointer (some ⟨h.length, 0, none⟩)), (2, .slice none 0 0)] _ _ ?_ (by simp (maxSteps := 2000000) only [↓Za, ↓Zn, ↓Zr, ↓Ze, ↓Zj, ↓Zs, ↓Zg, ↓Zh, ↓Zf, ↓Zb, ↓Zc, ↓vdn, vup, Zm, Zk, Zl, Zi, Zo, List.map_cons, List.map_nil, cond_true, cond_false, aop, Zv, Zq, Zp, ev, sput, Zt, Zz, Yb, unK, Zd, Zw, Nat.reduceBEq, Nat.reduceAdd, Int.reduceBEq, Int.reduceBNe, Int.reduceLT, Zu, Ya, tup, tyf])
  clear hN1
  try clear N1
  refine Yc fun N2 hN2 => ?_
  simp (maxSteps := 2000000) only [s80, ↓Za, ↓Zn, ↓Zr, ↓Ze, ↓Zj, ↓Zs, ↓Zg, ↓Zh, ↓Zf, ↓Zb, ↓Zc, ↓vdn, vup, Zm, Zk, Zl, Zi, Zo, List.map_cons, List.map_nil, cond_true, cond_false, aop, Zv, Zq, Zp, ev, sput, Zt, Zz, Yb, unK, Zd, Zw, Nat.reduceBEq, Nat.reduceAdd, Int.reduceBEq, Int.reduceBNe, Int.reduceLT, Zu, Ya, tup, tyf, Xh, List.nil_append, List.append_nil, List.toList_toArray, List.cons_append, loadO b1 Xn hln.2]
  refine (lines75_call ho).mono ?_
  rintro lv h1 ⟨hlv, hE1⟩
  have st3 : ∀ {K : Zy → Prop}, Wa prog (h1 ++ [Blk.cells [.slice none 0 0] 45 false]) 45 (.pointer (some ⟨h1.length, 0, none⟩)) lv K = K (h1 ++ [Blk.cells [lv] 45 false]) := fun {K} => by
    rw [store1 (Yp _ _) shp_45 (rdL_one hlv), setEnd]
  simp (maxSteps := 2000000) only [s80, ↓Za, ↓Zn, ↓Zr, ↓Ze, ↓Zj, ↓Zs, ↓Zg, ↓Zh, ↓Zf, ↓Zb, ↓Zc, ↓vdn, vup, Zm, Zk, Zl, Zi, Zo, List.map_cons, List.map_nil, cond_true, cond_false, aop, Zv, Zq, Zp, ev, sput, Zt, Zz, Yb, unK, Zd, Zw, Nat.reduceBEq, Nat.reduceAdd, Int.reduceBEq, Int.reduceBNe, Int.reduceLT, Zu, Ya, tup, tyf, Xz, Xc, zero_45, st3]
  refine hN2 [(1, .pointer (some ⟨h.length, 0, none⟩)), (2, .slice none 0 0), (3, .pointer (some ⟨h1.length, 0, none⟩))] _ _ ?_ (by simp (maxSteps := 2000000) only [↓Za, ↓Zn, ↓Zr, ↓Ze, ↓Zj, ↓Zs, ↓Zg, ↓Zh, ↓Zf, ↓Zb, ↓Zc, ↓vdn, vup, Zm, Zk, Zl, Zi, Zo, List.map_cons, List.map_nil, cond_true, cond_false, aop, Zv, Zq, Zp, ev, sput, Zt, Zz, Yb, unK, Zd, Zw, Nat.reduceBEq, Nat.reduceAdd, Int.reduceBEq, Int.reduceBNe, Int.reduceLT, Zu, Ya, tup, tyf])
  clear hN2
  try clear N2
  obtain ⟨H0, hH0⟩ : ∃ z, z = h1 ++ [Blk.cells [lv] 45 false] ++ [Blk.cells [.slice none 0 0] 120 false] := ⟨_, rfl⟩
  have hE10 : Ext (fun _ => False) h1 H0 := by rw [hH0]; simp only [List.append_assoc]; exact Ext.app _ _ _
  have c1 : H0[h.length]? = some (.cells (Wr o) 77 false) := ((hE1.trans hE10).2 _ (Yk b1) id).trans b1
  have c3 : H0[h1.length]? = some (.cells [lv] 45 false) := by rw [hH0]; simp
  have c4 : H0[h1.length + 1]? = some (.cells [.slice none 0 0] 120 false) := by rw [hH0]; simp
  have lH0 : H0.length = h1.length + 2 := by rw [hH0]; simp
  have hph := Yk b1
  have hg01 := hE1.1
  refine Yc fun N3 hN3 => ?_
  simp (maxSteps := 2000000) only [s80, ↓Za, ↓Zn, ↓Zr, ↓Ze, ↓Zj, ↓Zs, ↓Zg, ↓Zh, ↓Zf, ↓Zb, ↓Zc, ↓vdn, vup, Zm, Zk, Zl, Zi, Zo, List.map_cons, List.map_nil, cond_true, cond_false, aop, Zv, Zq, Zp, ev, sput, Zt, Zz, Yb, unK, Zd, Zw, Nat.reduceBEq, Nat.reduceAdd, Int.reduceBEq, Int.reduceBNe, Int.reduceLT, Zu, Ya, tup, tyf, Xz, Xc, zero_120, List.length_append, List.length_singleton]
  rw [← hH0]
  refine hN3 [(1, .pointer (some ⟨h.length, 0, none⟩)), (2, .slice none 0 0), (3, .pointer (some ⟨h1.length, 0, none⟩)), (4, .pointer (some ⟨h1.length + 1, 0, none⟩))] _ _ ?_ (by simp (maxSteps := 2000000) only [↓Za, ↓Zn, ↓Zr, ↓Ze, ↓Zj, ↓Zs, ↓Zg, ↓Zh, ↓Zf, ↓Zb, ↓Zc, ↓vdn, vup, Zm, Zk, Zl, Zi, Zo, List.map_cons, List.map_nil, cond_true, cond_false, aop, Zv, Zq, Zp, ev, sput, Zt, Zz, Yb, unK, Zd, Zw, Nat.reduceBEq, Nat.reduceAdd, Int.reduceBEq, Int.reduceBNe, Int.reduceLT, Zu, Ya, tup, tyf])
  clear hN3
  try clear N3
  refine Yh fun Z hZ => ?_
  refine Yc fun N4 hN4 => ?_
  simp (maxSteps := 2000000) only [s80, ↓Za, ↓Zn, ↓Zr, ↓Ze, ↓Zj, ↓Zs, ↓Zg, ↓Zh, ↓Zf, ↓Zb, ↓Zc, ↓vdn, vup, Zm, Zk, Zl, Zi, Zo, List.map_cons, List.map_nil, cond_true, cond_false, aop, Zv, Zq, Zp, ev, sput, Zt, Zz, Yb, unK, Zd, Zw, Nat.reduceBEq, Nat.reduceAdd, Int.reduceBEq, Int.reduceBNe, Int.reduceLT, Zu, Ya, tup, tyf, Xa c3 shp_45, hlv.len, hLl]
  refine hN4 [(1, .pointer (some ⟨h.length, 0, none⟩)), (2, .slice none 0 0), (3, .pointer (some ⟨h1.length, 0, none⟩)), (4, .pointer (some ⟨h1.length + 1, 0, none⟩)), (17, lv), (18, Zx (cn o : Nat)), (19, .int .i64 0)] _ _ ?_ (by simp (maxSteps := 2000000) only [↓Za, ↓Zn, ↓Zr, ↓Ze, ↓Zj, ↓Zs, ↓Zg, ↓Zh, ↓Zf, ↓Zb, ↓Zc, ↓vdn, vup, Zm, Zk, Zl, Zi, Zo, List.map_cons, List.map_nil, cond_true, cond_false, aop, Zv, Zq, Zp, ev, sput, Zt, Zz, Yb, unK, Zd, Zw, Nat.reduceBEq, Nat.reduceAdd, Int.reduceBEq, Int.reduceBNe, Int.reduceLT, Zu, Ya, tup, tyf])
  clear hN4
  try clear N4
  refine Ym ?_
  refine Yl fun Q hQ => ?_
  refine Wc (γ := Nat × Value × Zy) (fun g => g.1 ≤ cn o ∧ g.2.2[h1.length + 1]? = some (.cells [g.2.1] 120 false) ∧ Own6 121 g.2.2 g.2.1 (((Yw o).take g.1).map bhF) ∧ Ext (fun b => b = h1.length + 1) H0 g.2.2 ∧ ∀ b, Yd g.2.1 = some b → H0.length ≤ b)
    (fun g => ([(1, .pointer (some ⟨h.length, 0, none⟩)), (2, .slice none 0 0), (3, .pointer (some ⟨h1.length, 0, none⟩)), (4, .pointer (some ⟨h1.length + 1, 0, none⟩)), (17, lv), (18, Zx (cn o : Nat)), (19, Zx (g.1 : Nat))], g.2.2)) (fun g => cn o - g.1) (0, .slice none 0 0, H0) ⟨Nat.zero_le _, c4, .inl ⟨rfl, rfl⟩, Ext.refl _ _, fun b hb => by cases hb⟩ (by simp (maxSteps := 2000000) only [↓Za, ↓Zn, ↓Zr, ↓Ze, ↓Zj, ↓Zs, ↓Zg, ↓Zh, ↓Zf, ↓Zb, ↓Zc, ↓vdn, vup, Zm, Zk, Zl, Zi, Zo, List.map_cons, List.map_nil, cond_true, cond_false, aop, Zv, Zq, Zp, ev, sput, Zt, Zz, Yb, unK, Zd, Zw, Nat.reduceBEq, Nat.reduceAdd, Int.reduceBEq, Int.reduceBNe, Int.reduceLT, Zu, Ya, tup, tyf, Int.natCast_zero]) rfl ?_
  rintro ⟨j, sv, H⟩ ⟨hj, d4, how, hEH, hbw⟩
  simp only at hj d4 how hEH hbw
  refine Yl fun Q2 hQ2 => ?_
  simp only [l80_0]
  have hE1H : Ext (fun _ => False) h1 H := ext_pf hE10 hEH (by omega)
  have rlv := hlv.ext hE1H
  by_cases hin : (j : Int) < ((cn o : Nat) : Int)
  · have hj' : j < cn o := by omega
    have hjL : j < (linesI o).length := by omega
    obtain ⟨w, hw, hwl⟩ := rlv.load (P := prog) Xw hjL
    have hwg : (linesI o).getD j [] = Wz (lin o j) := linesI_get o hj'
    rw [hwg] at hw
    have lf := Ww ho hj'
    have l6 : ∀ x ∈ lin o j, x < 6 := fun x hx => by
      have := List.mem_range.1 (lf.pm.mem_iff.1 hx); omega
    have ll : (lin o j).length ≤ 6 := by rw [lf.pm.length_eq, List.length_range]; exact hln.2
    have bc := behind_call (h := H) hw lf.nd l6 ll
    have hnx : ((Yw o).take (j + 1)).map bhF = ((Yw o).take j).map bhF ++ [bhF (lin o j)] := by
      have hj3 : j < (Yw o).length := by rw [Xr]; exact hj'
      rw [List.take_succ, List.getElem?_eq_getElem hj3, Option.toList_some, List.map_append, List.map_singleton, lin, List.getD, List.getElem?_eq_getElem hj3]; rfl
    refine Yc fun N5 hN5 => ?_
    simp (maxSteps := 2000000) only [s80, ↓Za, ↓Zn, ↓Zr, ↓Ze, ↓Zj, ↓Zs, ↓Zg, ↓Zh, ↓Zf, ↓Zb, ↓Zc, ↓vdn, vup, Zm, Zk, Zl, Zi, Zo, List.map_cons, List.map_nil, cond_true, cond_false, aop, Zv, Zq, Zp, ev, sput, Zt, Zz, Yb, unK, Zd, Zw, Nat.reduceBEq, Nat.reduceAdd, Int.reduceBEq, Int.reduceBNe, Int.reduceLT, Zu, Ya, tup, tyf, hin]
    refine hN5 [(1, .pointer (some ⟨h.length, 0, none⟩)), (2, .slice none 0 0), (3, .pointer (some ⟨h1.length, 0, none⟩)), (4, .pointer (some ⟨h1.length + 1, 0, none⟩)), (17, lv), (18, Zx (cn o : Nat)), (19, Zx (j : Nat)), (20, .bool true)] _ _ ?_ (by simp (maxSteps := 2000000) only [↓Za, ↓Zn, ↓Zr, ↓Ze, ↓Zj, ↓Zs, ↓Zg, ↓Zh, ↓Zf, ↓Zb, ↓Zc, ↓vdn, vup, Zm, Zk, Zl, Zi, Zo, List.map_cons, List.map_nil, cond_true, cond_false, aop, Zv, Zq, Zp, ev, sput, Zt, Zz, Yb, unK, Zd, Zw, Nat.reduceBEq, Nat.reduceAdd, Int.reduceBEq, Int.reduceBNe, Int.reduceLT, Zu, Ya, tup, tyf])
    clear hN5
    try clear N5
    refine Yc fun N6 hN6 => ?_
    simp (maxSteps := 2000000) only [s80, ↓Za, ↓Zn, ↓Zr, ↓Ze, ↓Zj, ↓Zs, ↓Zg, ↓Zh, ↓Zf, ↓Zb, ↓Zc, ↓vdn, vup, Zm, Zk, Zl, Zi, Zo, List.map_cons, List.map_nil, cond_true, cond_false, aop, Zv, Zq, Zp, ev, sput, Zt, Zz, Yb, unK, Zd, Zw, Nat.reduceBEq, Nat.reduceAdd, Int.reduceBEq, Int.reduceBNe, Int.reduceLT, Zu, Ya, tup, tyf]
    refine hN6 [(1, .pointer (some ⟨h.length, 0, none⟩)), (2, .slice none 0 0), (3, .pointer (some ⟨h1.length, 0, none⟩)), (4, .pointer (some ⟨h1.length + 1, 0, none⟩)), (17, lv), (18, Zx (cn o : Nat)), (19, Zx (j : Nat))] _ _ ?_ (by simp (maxSteps := 2000000) only [↓Za, ↓Zn, ↓Zr, ↓Ze, ↓Zj, ↓Zs, ↓Zg, ↓Zh, ↓Zf, ↓Zb, ↓Zc, ↓vdn, vup, Zm, Zk, Zl, Zi, Zo, List.map_cons, List.map_nil, cond_true, cond_false, aop, Zv, Zq, Zp, ev, sput, Zt, Zz, Yb, unK, Zd, Zw, Nat.reduceBEq, Nat.reduceAdd, Int.reduceBEq, Int.reduceBNe, Int.reduceLT, Zu, Ya, tup, tyf])
    clear hN6
    try clear N6
    refine Yh fun B hB => ?_
    refine Ym ?_
    refine Yc fun N7 hN7 => ?_
    simp (maxSteps := 2000000) only [s80, ↓Za, ↓Zn, ↓Zr, ↓Ze, ↓Zj, ↓Zs, ↓Zg, ↓Zh, ↓Zf, ↓Zb, ↓Zc, ↓vdn, vup, Zm, Zk, Zl, Zi, Zo, List.map_cons, List.map_nil, cond_true, cond_false, aop, Zv, Zq, Zp, ev, sput, Zt, Zz, Yb, unK, Zd, Zw, Nat.reduceBEq, Nat.reduceAdd, Int.reduceBEq, Int.reduceBNe, Int.reduceLT, Zu, Ya, tup, tyf, rlv.idx el_45 esz_22 hjL, hwl]
    refine hN7 [(1, .pointer (some ⟨h.length, 0, none⟩)), (2, .slice none 0 0), (3, .pointer (some ⟨h1.length, 0, none⟩)), (4, .pointer (some ⟨h1.length + 1, 0, none⟩)), (6, w), (17, lv), (18, Zx (cn o : Nat)), (19, Zx (j : Nat))] _ _ ?_ (by simp (maxSteps := 2000000) only [↓Za, ↓Zn, ↓Zr, ↓Ze, ↓Zj, ↓Zs, ↓Zg, ↓Zh, ↓Zf, ↓Zb, ↓Zc, ↓vdn, vup, Zm, Zk, Zl, Zi, Zo, List.map_cons, List.map_nil, cond_true, cond_false, aop, Zv, Zq, Zp, ev, sput, Zt, Zz, Yb, unK, Zd, Zw, Nat.reduceBEq, Nat.reduceAdd, Int.reduceBEq, Int.reduceBNe, Int.reduceLT, Zu, Ya, tup, tyf])
    clear hN7
    try clear N7
    refine Yn ?_
    simp only [q80_6]
    refine aw_drawR (fun z => z[h1.length + 1]? = some (.cells [sv] 120 false)) [(0, 5), (2, 1), (5, 6)] (by kernel_rfl) (by kernel_rfl) (by kernel_rfl) (by kernel_rfl) d4 ?_
    simp (maxSteps := 2000000) only [s80, ↓Za, ↓Zn, ↓Zr, ↓Ze, ↓Zj, ↓Zs, ↓Zg, ↓Zh, ↓Zf, ↓Zb, ↓Zc, ↓vdn, vup, Zm, Zk, Zl, Zi, Zo, List.map_cons, List.map_nil, cond_true, cond_false, aop, Zv, Zq, Zp, ev, sput, Zt, Zz, Yb, unK, Zd, Zw, Nat.reduceBEq, Nat.reduceAdd, Int.reduceBEq, Int.reduceBNe, Int.reduceLT, Zu, Ya, tup, tyf, Nat.reduceLT, Bool.false_or, Bool.true_or, Xa d4 shp_120, Xh, List.nil_append, List.append_nil, List.toList_toArray, List.cons_append]
    refine ⟨sv, fun hp hhp => by simp only [Xa hhp shp_120], ?_⟩
    refine ⟨_, _, bc, rfl, ?_⟩
    simp (maxSteps := 2000000) only [s80, ↓Za, ↓Zn, ↓Zr, ↓Ze, ↓Zj, ↓Zs, ↓Zg, ↓Zh, ↓Zf, ↓Zb, ↓Zc, ↓vdn, vup, Zm, Zk, Zl, Zi, Zo, List.map_cons, List.map_nil, cond_true, cond_false, aop, Zv, Zq, Zp, ev, sput, Zt, Zz, Yb, unK, Zd, Zw, Nat.reduceBEq, Nat.reduceAdd, Int.reduceBEq, Int.reduceBNe, Int.reduceLT, Zu, Ya, tup, tyf, Nat.reduceLT, Bool.false_or, Bool.true_or, List.map_toArray, lit6 el_120 zero_121 esz_121]
    have hsvn : Yd sv ≠ some (h1.length + 1) := fun hc => by have := hbw _ hc; omega
    refine ⟨Wh d4 _, ?_⟩
    refine Own6.append (f := bhF (lin o j)) (how.ext (Ext.app _ _ _)) app_120_120 (by rw [List.length_map, List.length_take]; omega) (Yp _ _) fun sv' G ho' hE' hb' => ?_
    rw [← hnx] at ho'
    have hE4 : Ext (fun i => Yd sv = some i) H G := ((Ext.app (fun _ => False) H _).mono fun _ h => h.elim).trans hE'
    have d5 : G[h1.length + 1]? = some (.cells [sv] 120 false) := (hE4.2 _ (Yk d4) hsvn).trans d4
    have hbw' : ∀ b, Yd sv' = some b → H0.length ≤ b := fun b hb => by
      rcases hb' with h1 | ⟨b', h1, h2⟩
      · exact hbw b (h1 ▸ hb)
      · rw [h1] at hb; cases hb
        rw [List.length_append] at h2
        have := hEH.1; omega
    refine ⟨d5, ?_⟩
    simp (maxSteps := 2000000) only [s80, ↓Za, ↓Zn, ↓Zr, ↓Ze, ↓Zj, ↓Zs, ↓Zg, ↓Zh, ↓Zf, ↓Zb, ↓Zc, ↓vdn, vup, Zm, Zk, Zl, Zi, Zo, List.map_cons, List.map_nil, cond_true, cond_false, aop, Zv, Zq, Zp, ev, sput, Zt, Zz, Yb, unK, Zd, Zw, Nat.reduceBEq, Nat.reduceAdd, Int.reduceBEq, Int.reduceBNe, Int.reduceLT, Zu, Ya, tup, tyf, Nat.reduceLT, Bool.false_or, Bool.true_or, store1 d5 shp_120 ho'.one]
    refine hB [(1, .pointer (some ⟨h.length, 0, none⟩)), (2, .slice none 0 0), (3, .pointer (some ⟨h1.length, 0, none⟩)), (4, .pointer (some ⟨h1.length + 1, 0, none⟩)), (17, lv), (18, Zx (cn o : Nat)), (19, Zx (j : Nat))] _ _ ?_ (by simp (maxSteps := 2000000) only [↓Za, ↓Zn, ↓Zr, ↓Ze, ↓Zj, ↓Zs, ↓Zg, ↓Zh, ↓Zf, ↓Zb, ↓Zc, ↓vdn, vup, Zm, Zk, Zl, Zi, Zo, List.map_cons, List.map_nil, cond_true, cond_false, aop, Zv, Zq, Zp, ev, sput, Zt, Zz, Yb, unK, Zd, Zw, Nat.reduceBEq, Nat.reduceAdd, Int.reduceBEq, Int.reduceBNe, Int.reduceLT, Zu, Ya, tup, tyf])
    clear hB
    try clear B
    refine Yn ?_
    simp (maxSteps := 2000000) only [s80, ↓Za, ↓Zn, ↓Zr, ↓Ze, ↓Zj, ↓Zs, ↓Zg, ↓Zh, ↓Zf, ↓Zb, ↓Zc, ↓vdn, vup, Zm, Zk, Zl, Zi, Zo, List.map_cons, List.map_nil, cond_true, cond_false, aop, Zv, Zq, Zp, ev, sput, Zt, Zz, Yb, unK, Zd, Zw, Nat.reduceBEq, Nat.reduceAdd, Int.reduceBEq, Int.reduceBNe, Int.reduceLT, Zu, Ya, tup, tyf, add1 (show j < 9223372036854775807 by omega)]
    refine hQ2 _ _ _ ⟨(j + 1, sv', G.set (h1.length + 1) (.cells [sv'] 120 false)), ⟨hj', Xq (Yk d5) _, ho'.same fun b hb => List.getElem?_set_ne (by have := hbw' b hb; omega), ?_, hbw'⟩, by simp only; omega, by simp (maxSteps := 2000000) only [↓Za, ↓Zn, ↓Zr, ↓Ze, ↓Zj, ↓Zs, ↓Zg, ↓Zh, ↓Zf, ↓Zb, ↓Zc, ↓vdn, vup, Zm, Zk, Zl, Zi, Zo, List.map_cons, List.map_nil, cond_true, cond_false, aop, Zv, Zq, Zp, ev, sput, Zt, Zz, Yb, unK, Zd, Zw, Nat.reduceBEq, Nat.reduceAdd, Int.reduceBEq, Int.reduceBNe, Int.reduceLT, Zu, Ya, tup, tyf], rfl⟩
    refine ⟨by simp only [List.length_set]; have := hEH.1; have := hE4.1; omega, fun i hi hn => ?_⟩
    simp only
    rw [List.getElem?_set_ne (by omega), hE4.2 i (by have := hEH.1; omega) fun hc => by have := hbw i hc; omega]
    exact hEH.2 i hi hn
  obtain rfl : j = cn o := by omega
  refine Yc fun N8 hN8 => ?_
  simp (maxSteps := 2000000) only [s80, ↓Za, ↓Zn, ↓Zr, ↓Ze, ↓Zj, ↓Zs, ↓Zg, ↓Zh, ↓Zf, ↓Zb, ↓Zc, ↓vdn, vup, Zm, Zk, Zl, Zi, Zo, List.map_cons, List.map_nil, cond_true, cond_false, aop, Zv, Zq, Zp, ev, sput, Zt, Zz, Yb, unK, Zd, Zw, Nat.reduceBEq, Nat.reduceAdd, Int.reduceBEq, Int.reduceBNe, Int.reduceLT, Zu, Ya, tup, tyf, hin]
  refine hN8 [(1, .pointer (some ⟨h.length, 0, none⟩)), (2, .slice none 0 0), (3, .pointer (some ⟨h1.length, 0, none⟩)), (4, .pointer (some ⟨h1.length + 1, 0, none⟩)), (17, lv), (18, Zx (cn o : Nat)), (19, Zx (cn o : Nat)), (20, .bool false)] _ _ ?_ (by simp (maxSteps := 2000000) only [↓Za, ↓Zn, ↓Zr, ↓Ze, ↓Zj, ↓Zs, ↓Zg, ↓Zh, ↓Zf, ↓Zb, ↓Zc, ↓vdn, vup, Zm, Zk, Zl, Zi, Zo, List.map_cons, List.map_nil, cond_true, cond_false, aop, Zv, Zq, Zp, ev, sput, Zt, Zz, Yb, unK, Zd, Zw, Nat.reduceBEq, Nat.reduceAdd, Int.reduceBEq, Int.reduceBNe, Int.reduceLT, Zu, Ya, tup, tyf])
  clear hN8
  try clear N8
  refine Yc fun N9 hN9 => ?_
  simp (maxSteps := 2000000) only [s80, ↓Za, ↓Zn, ↓Zr, ↓Ze, ↓Zj, ↓Zs, ↓Zg, ↓Zh, ↓Zf, ↓Zb, ↓Zc, ↓vdn, vup, Zm, Zk, Zl, Zi, Zo, List.map_cons, List.map_nil, cond_true, cond_false, aop, Zv, Zq, Zp, ev, sput, Zt, Zz, Yb, unK, Zd, Zw, Nat.reduceBEq, Nat.reduceAdd, Int.reduceBEq, Int.reduceBNe, Int.reduceLT, Zu, Ya, tup, tyf]
  refine hQ2 _ _ _ (hQ _ _ _ ?_)
  simp (maxSteps := 2000000) only [s80, ↓Za, ↓Zn, ↓Zr, ↓Ze, ↓Zj, ↓Zs, ↓Zg, ↓Zh, ↓Zf, ↓Zb, ↓Zc, ↓vdn, vup, Zm, Zk, Zl, Zi, Zo, List.map_cons, List.map_nil, cond_true, cond_false, aop, Zv, Zq, Zp, ev, sput, Zt, Zz, Yb, unK, Zd, Zw, Nat.reduceBEq, Nat.reduceAdd, Int.reduceBEq, Int.reduceBNe, Int.reduceLT, Zu, Ya, tup, tyf, if_true]
  refine hZ [(1, .pointer (some ⟨h.length, 0, none⟩)), (2, .slice none 0 0), (3, .pointer (some ⟨h1.length, 0, none⟩)), (4, .pointer (some ⟨h1.length + 1, 0, none⟩))] _ _ ?_ (by simp (maxSteps := 2000000) only [↓Za, ↓Zn, ↓Zr, ↓Ze, ↓Zj, ↓Zs, ↓Zg, ↓Zh, ↓Zf, ↓Zb, ↓Zc, ↓vdn, vup, Zm, Zk, Zl, Zi, Zo, List.map_cons, List.map_nil, cond_true, cond_false, aop, Zv, Zq, Zp, ev, sput, Zt, Zz, Yb, unK, Zd, Zw, Nat.reduceBEq, Nat.reduceAdd, Int.reduceBEq, Int.reduceBNe, Int.reduceLT, Zu, Ya, tup, tyf])
  clear hZ
  try clear Z
  clear hQ hQ2
  have hallT : (Yw o).take (cn o) = Yw o := List.take_of_length_le (by rw [Xr]; exact Nat.le_refl _)
  rw [hallT] at how
  have hH0l := hEH.1
  have a1 : H[h.length]? = some (.cells (Wr o) 77 false) := (hEH.2 _ (Yk c1) (by omega)).trans c1
  have a3 : H[h1.length]? = some (.cells [lv] 45 false) := (hEH.2 _ (Yk c3) (by omega)).trans c3
  obtain ⟨gf, hgf⟩ : ∃ z : Value, z = .func (.func 106) #[] #[.pointer (some ⟨h.length, 0, none⟩), .pointer (some ⟨h1.length, 0, none⟩), .pointer (some ⟨h1.length + 1, 0, none⟩), .pointer (some ⟨H.length, 0, none⟩), .pointer (some ⟨H.length + 1, 0, none⟩)] := ⟨_, rfl⟩
  obtain ⟨X, hX⟩ : ∃ X : F6 → Zy, X = fun f => H ++ [Blk.cells [.slice none 0 0] 22 false] ++ [Blk.cells [gf] 123 false] ++ [Blk.cells (sixC f) 121 false] := ⟨_, rfl⟩
  have x7 : ∀ f, (X f)[H.length]? = some (.cells [.slice none 0 0] 22 false) := fun f => by rw [hX]; simp
  have x8 : ∀ f, (X f)[H.length + 1]? = some (.cells [gf] 123 false) := fun f => by rw [hX]; simp
  have x9 : ∀ f, (X f)[H.length + 2]? = some (.cells (sixC f) 121 false) := fun f => by rw [hX]; simp
  have xE : ∀ f, Ext (fun _ => False) H (X f) := fun f => by rw [hX]; simp only [List.append_assoc]; exact Ext.app _ _ _
  have xl : ∀ f, (X f).length = H.length + 3 := fun f => by rw [hX]; simp
  have xset : ∀ f g, (X f).set (H.length + 2) (.cells (sixC g) 121 false) = X g := fun f g => by
    rw [hX]; simp only [List.append_assoc]
    rw [List.set_append_right _ _ (by omega), show H.length + 2 - H.length = 2 by omega]; rfl
  have x1 : ∀ f, (X f)[h.length]? = some (.cells (Wr o) 77 false) := fun f => ((xE f).2 _ (Yk a1) id).trans a1
  refine Yc fun N10 hN10 => ?_
  simp (maxSteps := 2000000) only [s80, ↓Za, ↓Zn, ↓Zr, ↓Ze, ↓Zj, ↓Zs, ↓Zg, ↓Zh, ↓Zf, ↓Zb, ↓Zc, ↓vdn, vup, Zm, Zk, Zl, Zi, Zo, List.map_cons, List.map_nil, cond_true, cond_false, aop, Zv, Zq, Zp, ev, sput, Zt, Zz, Yb, unK, Zd, Zw, Nat.reduceBEq, Nat.reduceAdd, Int.reduceBEq, Int.reduceBNe, Int.reduceLT, Zu, Ya, tup, tyf, Xz, Xc, zero_22]
  refine hN10 [(1, .pointer (some ⟨h.length, 0, none⟩)), (2, .slice none 0 0), (3, .pointer (some ⟨h1.length, 0, none⟩)), (4, .pointer (some ⟨h1.length + 1, 0, none⟩)), (7, .pointer (some ⟨H.length, 0, none⟩))] _ _ ?_ (by simp (maxSteps := 2000000) only [↓Za, ↓Zn, ↓Zr, ↓Ze, ↓Zj, ↓Zs, ↓Zg, ↓Zh, ↓Zf, ↓Zb, ↓Zc, ↓vdn, vup, Zm, Zk, Zl, Zi, Zo, List.map_cons, List.map_nil, cond_true, cond_false, aop, Zv, Zq, Zp, ev, sput, Zt, Zz, Yb, unK, Zd, Zw, Nat.reduceBEq, Nat.reduceAdd, Int.reduceBEq, Int.reduceBNe, Int.reduceLT, Zu, Ya, tup, tyf])
  clear hN10
  try clear N10
  refine Yc fun N11 hN11 => ?_
  simp (maxSteps := 2000000) only [s80, ↓Za, ↓Zn, ↓Zr, ↓Ze, ↓Zj, ↓Zs, ↓Zg, ↓Zh, ↓Zf, ↓Zb, ↓Zc, ↓vdn, vup, Zm, Zk, Zl, Zi, Zo, List.map_cons, List.map_nil, cond_true, cond_false, aop, Zv, Zq, Zp, ev, sput, Zt, Zz, Yb, unK, Zd, Zw, Nat.reduceBEq, Nat.reduceAdd, Int.reduceBEq, Int.reduceBNe, Int.reduceLT, Zu, Ya, tup, tyf, Xz, Xc, zero_123, List.length_append, List.length_singleton]
  refine hN11 [(1, .pointer (some ⟨h.length, 0, none⟩)), (2, .slice none 0 0), (3, .pointer (some ⟨h1.length, 0, none⟩)), (4, .pointer (some ⟨h1.length + 1, 0, none⟩)), (7, .pointer (some ⟨H.length, 0, none⟩)), (8, .pointer (some ⟨H.length + 1, 0, none⟩))] _ _ ?_ (by simp (maxSteps := 2000000) only [↓Za, ↓Zn, ↓Zr, ↓Ze, ↓Zj, ↓Zs, ↓Zg, ↓Zh, ↓Zf, ↓Zb, ↓Zc, ↓vdn, vup, Zm, Zk, Zl, Zi, Zo, List.map_cons, List.map_nil, cond_true, cond_false, aop, Zv, Zq, Zp, ev, sput, Zt, Zz, Yb, unK, Zd, Zw, Nat.reduceBEq, Nat.reduceAdd, Int.reduceBEq, Int.reduceBNe, Int.reduceLT, Zu, Ya, tup, tyf])
  clear hN11
  try clear N11
  have st8 : ∀ {K : Zy → Prop}, Wa prog (H ++ [Blk.cells [.slice none 0 0] 22 false] ++ [Blk.cells [.nilFunc] 123 false]) 123 (.pointer (some ⟨H.length + 1, 0, none⟩)) gf K = K (H ++ [Blk.cells [.slice none 0 0] 22 false] ++ [Blk.cells [gf] 123 false]) := fun {K} => by
    rw [store1 (v := .nilFunc) (e := 123) (by simp) shp_123 (by rw [hgf]; rfl)]
    have := setEnd (H ++ [Blk.cells [.slice none 0 0] 22 false]) (Blk.cells [.nilFunc] 123 false) (Blk.cells [gf] 123 false)
    rw [List.length_append, List.length_singleton] at this
    rw [this]
  refine Yc fun N12 hN12 => ?_
  simp (maxSteps := 2000000) only [s80, ↓Za, ↓Zn, ↓Zr, ↓Ze, ↓Zj, ↓Zs, ↓Zg, ↓Zh, ↓Zf, ↓Zb, ↓Zc, ↓vdn, vup, Zm, Zk, Zl, Zi, Zo, List.map_cons, List.map_nil, cond_true, cond_false, aop, Zv, Zq, Zp, ev, sput, Zt, Zz, Yb, unK, Zd, Zw, Nat.reduceBEq, Nat.reduceAdd, Int.reduceBEq, Int.reduceBNe, Int.reduceLT, Zu, Ya, tup, tyf, List.map_toArray]
  rw [← hgf, st8]
  refine hN12 [(1, .pointer (some ⟨h.length, 0, none⟩)), (2, .slice none 0 0), (3, .pointer (some ⟨h1.length, 0, none⟩)), (4, .pointer (some ⟨h1.length + 1, 0, none⟩)), (7, .pointer (some ⟨H.length, 0, none⟩)), (8, .pointer (some ⟨H.length + 1, 0, none⟩))] _ _ ?_ (by simp (maxSteps := 2000000) only [↓Za, ↓Zn, ↓Zr, ↓Ze, ↓Zj, ↓Zs, ↓Zg, ↓Zh, ↓Zf, ↓Zb, ↓Zc, ↓vdn, vup, Zm, Zk, Zl, Zi, Zo, List.map_cons, List.map_nil, cond_true, cond_false, aop, Zv, Zq, Zp, ev, sput, Zt, Zz, Yb, unK, Zd, Zw, Nat.reduceBEq, Nat.reduceAdd, Int.reduceBEq, Int.reduceBNe, Int.reduceLT, Zu, Ya, tup, tyf])
  clear hN12
  try clear N12
  refine Yc fun N13 hN13 => ?_
  simp (maxSteps := 2000000) only [s80, ↓Za, ↓Zn, ↓Zr, ↓Ze, ↓Zj, ↓Zs, ↓Zg, ↓Zh, ↓Zf, ↓Zb, ↓Zc, ↓vdn, vup, Zm, Zk, Zl, Zi, Zo, List.map_cons, List.map_nil, cond_true, cond_false, aop, Zv, Zq, Zp, ev, sput, Zt, Zz, Yb, unK, Zd, Zw, Nat.reduceBEq, Nat.reduceAdd, Int.reduceBEq, Int.reduceBNe, Int.reduceLT, Zu, Ya, tup, tyf, Xz, Xc, zero_121, List.length_append, List.length_singleton, Nat.add_assoc, Nat.reduceAdd]
  have hX0 : H ++ [Blk.cells [.slice none 0 0] 22 false] ++ [Blk.cells [gf] 123 false] ++ [Blk.cells [.int .i64 0, .int .i64 0, .int .i64 0, .int .i64 0, .int .i64 0, .int .i64 0] 121 false] = X (fun k => if k < 0 then 2 ^ o.length - 1 else 0) := by rw [hX]; rfl
  rw [hX0]
  refine hN13 [(1, .pointer (some ⟨h.length, 0, none⟩)), (2, .slice none 0 0), (3, .pointer (some ⟨h1.length, 0, none⟩)), (4, .pointer (some ⟨h1.length + 1, 0, none⟩)), (7, .pointer (some ⟨H.length, 0, none⟩)), (8, .pointer (some ⟨H.length + 1, 0, none⟩)), (9, .pointer (some ⟨H.length + 2, 0, none⟩))] _ _ ?_ (by simp (maxSteps := 2000000) only [↓Za, ↓Zn, ↓Zr, ↓Ze, ↓Zj, ↓Zs, ↓Zg, ↓Zh, ↓Zf, ↓Zb, ↓Zc, ↓vdn, vup, Zm, Zk, Zl, Zi, Zo, List.map_cons, List.map_nil, cond_true, cond_false, aop, Zv, Zq, Zp, ev, sput, Zt, Zz, Yb, unK, Zd, Zw, Nat.reduceBEq, Nat.reduceAdd, Int.reduceBEq, Int.reduceBNe, Int.reduceLT, Zu, Ya, tup, tyf])
  clear hN13
  try clear N13
  have f4 : ∀ {K : Value → Prop}, Xo prog 77 (.pointer (some ⟨h.length, 0, none⟩)) 0 K = K (.pointer (some ⟨h.length, 0, none⟩)) := fun {K} => by
    simp [Xo, fld_77_0, Xx]
  refine Yh fun Z hZ => ?_
  refine Yc fun N14 hN14 => ?_
  simp (maxSteps := 2000000) only [s80, ↓Za, ↓Zn, ↓Zr, ↓Ze, ↓Zj, ↓Zs, ↓Zg, ↓Zh, ↓Zf, ↓Zb, ↓Zc, ↓vdn, vup, Zm, Zk, Zl, Zi, Zo, List.map_cons, List.map_nil, cond_true, cond_false, aop, Zv, Zq, Zp, ev, sput, Zt, Zz, Yb, unK, Zd, Zw, Nat.reduceBEq, Nat.reduceAdd, Int.reduceBEq, Int.reduceBNe, Int.reduceLT, Zu, Ya, tup, tyf, f4, loadN (x1 (fun k => if k < 0 then 2 ^ o.length - 1 else 0)) Yv]
  refine hN14 [(1, .pointer (some ⟨h.length, 0, none⟩)), (2, .slice none 0 0), (3, .pointer (some ⟨h1.length, 0, none⟩)), (4, .pointer (some ⟨h1.length + 1, 0, none⟩)), (7, .pointer (some ⟨H.length, 0, none⟩)), (8, .pointer (some ⟨H.length + 1, 0, none⟩)), (9, .pointer (some ⟨H.length + 2, 0, none⟩)), (31, Zx o.length), (32, .int .i64 0)] _ _ ?_ (by simp (maxSteps := 2000000) only [↓Za, ↓Zn, ↓Zr, ↓Ze, ↓Zj, ↓Zs, ↓Zg, ↓Zh, ↓Zf, ↓Zb, ↓Zc, ↓vdn, vup, Zm, Zk, Zl, Zi, Zo, List.map_cons, List.map_nil, cond_true, cond_false, aop, Zv, Zq, Zp, ev, sput, Zt, Zz, Yb, unK, Zd, Zw, Nat.reduceBEq, Nat.reduceAdd, Int.reduceBEq, Int.reduceBNe, Int.reduceLT, Zu, Ya, tup, tyf])
  clear hN14
  try clear N14
  refine Ym ?_
  refine Yl fun Q hQ => ?_
  refine Wc (γ := Nat) (fun i => i ≤ o.length) (fun i => ([(1, .pointer (some ⟨h.length, 0, none⟩)), (2, .slice none 0 0), (3, .pointer (some ⟨h1.length, 0, none⟩)), (4, .pointer (some ⟨h1.length + 1, 0, none⟩)), (7, .pointer (some ⟨H.length, 0, none⟩)), (8, .pointer (some ⟨H.length + 1, 0, none⟩)), (9, .pointer (some ⟨H.length + 2, 0, none⟩)), (31, Zx o.length), (32, Zx (i : Nat))], X fun k => if k < i then 2 ^ o.length - 1 else 0)) (fun i => o.length - i) 0 (Nat.zero_le _) (by simp (maxSteps := 2000000) only [↓Za, ↓Zn, ↓Zr, ↓Ze, ↓Zj, ↓Zs, ↓Zg, ↓Zh, ↓Zf, ↓Zb, ↓Zc, ↓vdn, vup, Zm, Zk, Zl, Zi, Zo, List.map_cons, List.map_nil, cond_true, cond_false, aop, Zv, Zq, Zp, ev, sput, Zt, Zz, Yb, unK, Zd, Zw, Nat.reduceBEq, Nat.reduceAdd, Int.reduceBEq, Int.reduceBNe, Int.reduceLT, Zu, Ya, tup, tyf, Int.natCast_zero]) rfl ?_
  rintro i hi
  obtain ⟨fi, hfi⟩ : ∃ f : F6, f = fun k => if k < i then 2 ^ o.length - 1 else 0 := ⟨_, rfl⟩
  have hup : upd6 fi i (2 ^ o.length - 1) = fun k => if k < i + 1 then 2 ^ o.length - 1 else 0 := by
    funext k
    rw [hfi]
    simp only [upd6]
    by_cases h1 : k = i
    · rw [if_pos h1, if_pos (by omega)]
    · rw [if_neg h1]
      by_cases h2 : k < i
      · rw [if_pos h2, if_pos (by omega)]
      · rw [if_neg h2, if_neg (by omega)]
  simp only [← hfi]
  refine Yl fun Q2 hQ2 => ?_
  simp only [l80_1]
  by_cases hiin : (i : Int) < o.length
  · have hi' : i < o.length := by omega
    have hi6 : i < 6 := by omega
    refine Yc fun N15 hN15 => ?_
    simp (maxSteps := 2000000) only [s80, ↓Za, ↓Zn, ↓Zr, ↓Ze, ↓Zj, ↓Zs, ↓Zg, ↓Zh, ↓Zf, ↓Zb, ↓Zc, ↓vdn, vup, Zm, Zk, Zl, Zi, Zo, List.map_cons, List.map_nil, cond_true, cond_false, aop, Zv, Zq, Zp, ev, sput, Zt, Zz, Yb, unK, Zd, Zw, Nat.reduceBEq, Nat.reduceAdd, Int.reduceBEq, Int.reduceBNe, Int.reduceLT, Zu, Ya, tup, tyf, hiin]
    refine hN15 [(1, .pointer (some ⟨h.length, 0, none⟩)), (2, .slice none 0 0), (3, .pointer (some ⟨h1.length, 0, none⟩)), (4, .pointer (some ⟨h1.length + 1, 0, none⟩)), (7, .pointer (some ⟨H.length, 0, none⟩)), (8, .pointer (some ⟨H.length + 1, 0, none⟩)), (9, .pointer (some ⟨H.length + 2, 0, none⟩)), (31, Zx o.length), (32, Zx (i : Nat)), (33, .bool true)] _ _ ?_ (by simp (maxSteps := 2000000) only [↓Za, ↓Zn, ↓Zr, ↓Ze, ↓Zj, ↓Zs, ↓Zg, ↓Zh, ↓Zf, ↓Zb, ↓Zc, ↓vdn, vup, Zm, Zk, Zl, Zi, Zo, List.map_cons, List.map_nil, cond_true, cond_false, aop, Zv, Zq, Zp, ev, sput, Zt, Zz, Yb, unK, Zd, Zw, Nat.reduceBEq, Nat.reduceAdd, Int.reduceBEq, Int.reduceBNe, Int.reduceLT, Zu, Ya, tup, tyf])
    clear hN15
    try clear N15
    refine Yc fun N16 hN16 => ?_
    simp (maxSteps := 2000000) only [s80, ↓Za, ↓Zn, ↓Zr, ↓Ze, ↓Zj, ↓Zs, ↓Zg, ↓Zh, ↓Zf, ↓Zb, ↓Zc, ↓vdn, vup, Zm, Zk, Zl, Zi, Zo, List.map_cons, List.map_nil, cond_true, cond_false, aop, Zv, Zq, Zp, ev, sput, Zt, Zz, Yb, unK, Zd, Zw, Nat.reduceBEq, Nat.reduceAdd, Int.reduceBEq, Int.reduceBNe, Int.reduceLT, Zu, Ya, tup, tyf]
    refine hN16 [(1, .pointer (some ⟨h.length, 0, none⟩)), (2, .slice none 0 0), (3, .pointer (some ⟨h1.length, 0, none⟩)), (4, .pointer (some ⟨h1.length + 1, 0, none⟩)), (7, .pointer (some ⟨H.length, 0, none⟩)), (8, .pointer (some ⟨H.length + 1, 0, none⟩)), (9, .pointer (some ⟨H.length + 2, 0, none⟩)), (31, Zx o.length), (32, Zx (i : Nat))] _ _ ?_ (by simp (maxSteps := 2000000) only [↓Za, ↓Zn, ↓Zr, ↓Ze, ↓Zj, ↓Zs, ↓Zg, ↓Zh, ↓Zf, ↓Zb, ↓Zc, ↓vdn, vup, Zm, Zk, Zl, Zi, Zo, List.map_cons, List.map_nil, cond_true, cond_false, aop, Zv, Zq, Zp, ev, sput, Zt, Zz, Yb, unK, Zd, Zw, Nat.reduceBEq, Nat.reduceAdd, Int.reduceBEq, Int.reduceBNe, Int.reduceLT, Zu, Ya, tup, tyf])
    clear hN16
    try clear N16
    refine Yh fun B hB => ?_
    refine Ym ?_
    refine Yc fun N17 hN17 => ?_
    simp (maxSteps := 2000000) only [s80, ↓Za, ↓Zn, ↓Zr, ↓Ze, ↓Zj, ↓Zs, ↓Zg, ↓Zh, ↓Zf, ↓Zb, ↓Zc, ↓vdn, vup, Zm, Zk, Zl, Zi, Zo, List.map_cons, List.map_nil, cond_true, cond_false, aop, Zv, Zq, Zp, ev, sput, Zt, Zz, Yb, unK, Zd, Zw, Nat.reduceBEq, Nat.reduceAdd, Int.reduceBEq, Int.reduceBNe, Int.reduceLT, Zu, Ya, tup, tyf]
    refine hN17 [(1, .pointer (some ⟨h.length, 0, none⟩)), (2, .slice none 0 0), (3, .pointer (some ⟨h1.length, 0, none⟩)), (4, .pointer (some ⟨h1.length + 1, 0, none⟩)), (7, .pointer (some ⟨H.length, 0, none⟩)), (8, .pointer (some ⟨H.length + 1, 0, none⟩)), (9, .pointer (some ⟨H.length + 2, 0, none⟩)), (10, Zx (i : Nat)), (31, Zx o.length), (32, Zx (i : Nat))] _ _ ?_ (by simp (maxSteps := 2000000) only [↓Za, ↓Zn, ↓Zr, ↓Ze, ↓Zj, ↓Zs, ↓Zg, ↓Zh, ↓Zf, ↓Zb, ↓Zc, ↓vdn, vup, Zm, Zk, Zl, Zi, Zo, List.map_cons, List.map_nil, cond_true, cond_false, aop, Zv, Zq, Zp, ev, sput, Zt, Zz, Yb, unK, Zd, Zw, Nat.reduceBEq, Nat.reduceAdd, Int.reduceBEq, Int.reduceBNe, Int.reduceLT, Zu, Ya, tup, tyf])
    clear hN17
    try clear N17
    refine Yn ?_
    simp (maxSteps := 2000000) only [s80, ↓Za, ↓Zn, ↓Zr, ↓Ze, ↓Zj, ↓Zs, ↓Zg, ↓Zh, ↓Zf, ↓Zb, ↓Zc, ↓vdn, vup, Zm, Zk, Zl, Zi, Zo, List.map_cons, List.map_nil, cond_true, cond_false, aop, Zv, Zq, Zp, ev, sput, Zt, Zz, Yb, unK, Zd, Zw, Nat.reduceBEq, Nat.reduceAdd, Int.reduceBEq, Int.reduceBNe, Int.reduceLT, Zu, Ya, tup, tyf, Xh, List.nil_append, List.append_nil, List.toList_toArray, List.cons_append, loadO (x1 fi) Xn hln.2]
    refine (all_call hln.2).mono ?_
    rintro _ _ ⟨rfl, rfl⟩
    simp (maxSteps := 2000000) only [s80, ↓Za, ↓Zn, ↓Zr, ↓Ze, ↓Zj, ↓Zs, ↓Zg, ↓Zh, ↓Zf, ↓Zb, ↓Zc, ↓vdn, vup, Zm, Zk, Zl, Zi, Zo, List.map_cons, List.map_nil, cond_true, cond_false, aop, Zv, Zq, Zp, ev, sput, Zt, Zz, Yb, unK, Zd, Zw, Nat.reduceBEq, Nat.reduceAdd, Int.reduceBEq, Int.reduceBNe, Int.reduceLT, Zu, Ya, tup, tyf, six_idx und_121 Xx hi6, Nat.zero_add, six_store1 (x9 fi) Yv hi6, hup, xset]
    refine hB [(1, .pointer (some ⟨h.length, 0, none⟩)), (2, .slice none 0 0), (3, .pointer (some ⟨h1.length, 0, none⟩)), (4, .pointer (some ⟨h1.length + 1, 0, none⟩)), (7, .pointer (some ⟨H.length, 0, none⟩)), (8, .pointer (some ⟨H.length + 1, 0, none⟩)), (9, .pointer (some ⟨H.length + 2, 0, none⟩)), (31, Zx o.length), (32, Zx (i : Nat))] _ _ ?_ (by simp (maxSteps := 2000000) only [↓Za, ↓Zn, ↓Zr, ↓Ze, ↓Zj, ↓Zs, ↓Zg, ↓Zh, ↓Zf, ↓Zb, ↓Zc, ↓vdn, vup, Zm, Zk, Zl, Zi, Zo, List.map_cons, List.map_nil, cond_true, cond_false, aop, Zv, Zq, Zp, ev, sput, Zt, Zz, Yb, unK, Zd, Zw, Nat.reduceBEq, Nat.reduceAdd, Int.reduceBEq, Int.reduceBNe, Int.reduceLT, Zu, Ya, tup, tyf])
    clear hB
    try clear B
    refine Yn ?_
    simp (maxSteps := 2000000) only [s80, ↓Za, ↓Zn, ↓Zr, ↓Ze, ↓Zj, ↓Zs, ↓Zg, ↓Zh, ↓Zf, ↓Zb, ↓Zc, ↓vdn, vup, Zm, Zk, Zl, Zi, Zo, List.map_cons, List.map_nil, cond_true, cond_false, aop, Zv, Zq, Zp, ev, sput, Zt, Zz, Yb, unK, Zd, Zw, Nat.reduceBEq, Nat.reduceAdd, Int.reduceBEq, Int.reduceBNe, Int.reduceLT, Zu, Ya, tup, tyf, add1 (show i < 9223372036854775807 by omega)]
    exact hQ2 _ _ _ ⟨i + 1, hi', by omega, by simp (maxSteps := 2000000) only [↓Za, ↓Zn, ↓Zr, ↓Ze, ↓Zj, ↓Zs, ↓Zg, ↓Zh, ↓Zf, ↓Zb, ↓Zc, ↓vdn, vup, Zm, Zk, Zl, Zi, Zo, List.map_cons, List.map_nil, cond_true, cond_false, aop, Zv, Zq, Zp, ev, sput, Zt, Zz, Yb, unK, Zd, Zw, Nat.reduceBEq, Nat.reduceAdd, Int.reduceBEq, Int.reduceBNe, Int.reduceLT, Zu, Ya, tup, tyf], rfl⟩
  obtain rfl : i = o.length := by omega
  refine Yc fun N18 hN18 => ?_
  simp (maxSteps := 2000000) only [s80, ↓Za, ↓Zn, ↓Zr, ↓Ze, ↓Zj, ↓Zs, ↓Zg, ↓Zh, ↓Zf, ↓Zb, ↓Zc, ↓vdn, vup, Zm, Zk, Zl, Zi, Zo, List.map_cons, List.map_nil, cond_true, cond_false, aop, Zv, Zq, Zp, ev, sput, Zt, Zz, Yb, unK, Zd, Zw, Nat.reduceBEq, Nat.reduceAdd, Int.reduceBEq, Int.reduceBNe, Int.reduceLT, Zu, Ya, tup, tyf, hiin]
  refine hN18 [(1, .pointer (some ⟨h.length, 0, none⟩)), (2, .slice none 0 0), (3, .pointer (some ⟨h1.length, 0, none⟩)), (4, .pointer (some ⟨h1.length + 1, 0, none⟩)), (7, .pointer (some ⟨H.length, 0, none⟩)), (8, .pointer (some ⟨H.length + 1, 0, none⟩)), (9, .pointer (some ⟨H.length + 2, 0, none⟩)), (31, Zx o.length), (32, Zx o.length), (33, .bool false)] _ _ ?_ (by simp (maxSteps := 2000000) only [↓Za, ↓Zn, ↓Zr, ↓Ze, ↓Zj, ↓Zs, ↓Zg, ↓Zh, ↓Zf, ↓Zb, ↓Zc, ↓vdn, vup, Zm, Zk, Zl, Zi, Zo, List.map_cons, List.map_nil, cond_true, cond_false, aop, Zv, Zq, Zp, ev, sput, Zt, Zz, Yb, unK, Zd, Zw, Nat.reduceBEq, Nat.reduceAdd, Int.reduceBEq, Int.reduceBNe, Int.reduceLT, Zu, Ya, tup, tyf])
  clear hN18
  try clear N18
  refine Yc fun N19 hN19 => ?_
  simp (maxSteps := 2000000) only [s80, ↓Za, ↓Zn, ↓Zr, ↓Ze, ↓Zj, ↓Zs, ↓Zg, ↓Zh, ↓Zf, ↓Zb, ↓Zc, ↓vdn, vup, Zm, Zk, Zl, Zi, Zo, List.map_cons, List.map_nil, cond_true, cond_false, aop, Zv, Zq, Zp, ev, sput, Zt, Zz, Yb, unK, Zd, Zw, Nat.reduceBEq, Nat.reduceAdd, Int.reduceBEq, Int.reduceBNe, Int.reduceLT, Zu, Ya, tup, tyf]
  refine hQ2 _ _ _ (hQ _ _ _ ?_)
  simp (maxSteps := 2000000) only [s80, ↓Za, ↓Zn, ↓Zr, ↓Ze, ↓Zj, ↓Zs, ↓Zg, ↓Zh, ↓Zf, ↓Zb, ↓Zc, ↓vdn, vup, Zm, Zk, Zl, Zi, Zo, List.map_cons, List.map_nil, cond_true, cond_false, aop, Zv, Zq, Zp, ev, sput, Zt, Zz, Yb, unK, Zd, Zw, Nat.reduceBEq, Nat.reduceAdd, Int.reduceBEq, Int.reduceBNe, Int.reduceLT, Zu, Ya, tup, tyf, if_true]
  have hB : X fi = X (cmF o []) := by
    rw [hX]
    simp only
    rw [sixC_congr (f := fi) (g := cmF o []) fun k hk => by rw [hfi, cmF]; rfl]
  rw [hB]
  refine hZ [(1, .pointer (some ⟨h.length, 0, none⟩)), (2, .slice none 0 0), (3, .pointer (some ⟨h1.length, 0, none⟩)), (4, .pointer (some ⟨h1.length + 1, 0, none⟩)), (7, .pointer (some ⟨H.length, 0, none⟩)), (8, .pointer (some ⟨H.length + 1, 0, none⟩)), (9, .pointer (some ⟨H.length + 2, 0, none⟩))] _ _ ?_ (by simp (maxSteps := 2000000) only [↓Za, ↓Zn, ↓Zr, ↓Ze, ↓Zj, ↓Zs, ↓Zg, ↓Zh, ↓Zf, ↓Zb, ↓Zc, ↓vdn, vup, Zm, Zk, Zl, Zi, Zo, List.map_cons, List.map_nil, cond_true, cond_false, aop, Zv, Zq, Zp, ev, sput, Zt, Zz, Yb, unK, Zd, Zw, Nat.reduceBEq, Nat.reduceAdd, Int.reduceBEq, Int.reduceBNe, Int.reduceLT, Zu, Ya, tup, tyf])
  clear hZ
  try clear Z
  clear hQ hQ2 hB hup
  obtain ⟨B0, hB0⟩ : ∃ z, z = X (cmF o []) := ⟨_, rfl⟩
  rw [← hB0]
  have lB0 : B0.length = H.length + 3 := by rw [hB0]; exact xl _
  have y9 : B0[H.length + 2]? = some (.cells (sixC (cmF o [])) 121 false) := by rw [hB0]; exact x9 _
  have y7 : B0[H.length]? = some (.cells [.slice none 0 0] 22 false) := by rw [hB0]; exact x7 _
  have y8 : B0[H.length + 1]? = some (.cells [gf] 123 false) := by rw [hB0]; exact x8 _
  have yE : Ext (fun _ => False) H B0 := by rw [hB0]; exact xE _
  have re : RE o B0 h.length h1.length (h1.length + 1) H.length (H.length + 1) lv sv :=
    { ob := (yE.2 _ (Yk a1) id).trans a1
      ab_ := (yE.2 _ (Yk a3) id).trans a3
      sb := (yE.2 _ (Yk d4) id).trans d4
      gb := by rw [y8, hgf]
      fo := by omega
      fa := by omega
      fs := by omega
      fg := by omega
      f := by omega
      al := fun K => by rw [hlv.len, hLl]
      sl := how.ext yE
      sf := fun hc => by have := how.lt hc; omega }
  clear hX0 x7 x8 x9 xE xset x1
  refine Yh fun Z hZ => ?_
  refine Yc fun N20 hN20 => ?_
  simp (maxSteps := 2000000) only [s80, ↓Za, ↓Zn, ↓Zr, ↓Ze, ↓Zj, ↓Zs, ↓Zg, ↓Zh, ↓Zf, ↓Zb, ↓Zc, ↓vdn, vup, Zm, Zk, Zl, Zi, Zo, List.map_cons, List.map_nil, cond_true, cond_false, aop, Zv, Zq, Zp, ev, sput, Zt, Zz, Yb, unK, Zd, Zw, Nat.reduceBEq, Nat.reduceAdd, Int.reduceBEq, Int.reduceBNe, Int.reduceLT, Zu, Ya, tup, tyf]
  refine hN20 [(1, .pointer (some ⟨h.length, 0, none⟩)), (2, .slice none 0 0), (3, .pointer (some ⟨h1.length, 0, none⟩)), (4, .pointer (some ⟨h1.length + 1, 0, none⟩)), (7, .pointer (some ⟨H.length, 0, none⟩)), (8, .pointer (some ⟨H.length + 1, 0, none⟩)), (9, .pointer (some ⟨H.length + 2, 0, none⟩)), (11, .int .i64 1)] _ _ ?_ (by simp (maxSteps := 2000000) only [↓Za, ↓Zn, ↓Zr, ↓Ze, ↓Zj, ↓Zs, ↓Zg, ↓Zh, ↓Zf, ↓Zb, ↓Zc, ↓vdn, vup, Zm, Zk, Zl, Zi, Zo, List.map_cons, List.map_nil, cond_true, cond_false, aop, Zv, Zq, Zp, ev, sput, Zt, Zz, Yb, unK, Zd, Zw, Nat.reduceBEq, Nat.reduceAdd, Int.reduceBEq, Int.reduceBNe, Int.reduceLT, Zu, Ya, tup, tyf])
  clear hN20
  try clear N20
  refine Ym ?_
  refine Yl fun Q hQ => ?_
  refine Wc (γ := Nat × Zy) (fun g => g.1 < 3 ∧ Xb (sepB o) (cn o) 1 g.1 = none ∧ KH B0 H.length g.2 ∧ g.2[H.length]? = some (.cells [.slice none 0 0] 22 false))
    (fun g => ([(1, .pointer (some ⟨h.length, 0, none⟩)), (2, .slice none 0 0), (3, .pointer (some ⟨h1.length, 0, none⟩)), (4, .pointer (some ⟨h1.length + 1, 0, none⟩)), (7, .pointer (some ⟨H.length, 0, none⟩)), (8, .pointer (some ⟨H.length + 1, 0, none⟩)), (9, .pointer (some ⟨H.length + 2, 0, none⟩)), (11, Zx (g.1 + 1 : Nat))], g.2)) (fun g => 3 - g.1) (0, B0) ⟨show 0 < 3 by decide, rfl, Ext.refl _ _, y7⟩ (by simp (maxSteps := 2000000) only [↓Za, ↓Zn, ↓Zr, ↓Ze, ↓Zj, ↓Zs, ↓Zg, ↓Zh, ↓Zf, ↓Zb, ↓Zc, ↓vdn, vup, Zm, Zk, Zl, Zi, Zo, List.map_cons, List.map_nil, cond_true, cond_false, aop, Zv, Zq, Zp, ev, sput, Zt, Zz, Yb, unK, Zd, Zw, Nat.reduceBEq, Nat.reduceAdd, Int.reduceBEq, Int.reduceBNe, Int.reduceLT, Zu, Ya, tup, tyf, Nat.zero_add, Int.natCast_one]) rfl ?_
  rintro ⟨s, G⟩ ⟨hs, hshort, kG, g7⟩
  simp only at hs hshort kG g7
  refine Yl fun Q2 hQ2 => ?_
  simp only [l80_2]
  have gc := real_grow ho re (s + 1) 0 [] G (.slice none 0 0) (fun h => by omega) (by simp; omega) (fun k hk => by cases hk) (Nat.zero_le _) kG ⟨g7, .inl ⟨rfl, rfl⟩, fun b hb => by cases hb⟩
  have k8 := kG.at_ re.gb re.fg
  have k9 := kG.at_ y9 (by omega)
  refine Yh fun C hC => ?_
  refine Yc fun N21 hN21 => ?_
  simp (maxSteps := 2000000) only [s80, ↓Za, ↓Zn, ↓Zr, ↓Ze, ↓Zj, ↓Zs, ↓Zg, ↓Zh, ↓Zf, ↓Zb, ↓Zc, ↓vdn, vup, Zm, Zk, Zl, Zi, Zo, List.map_cons, List.map_nil, cond_true, cond_false, aop, Zv, Zq, Zp, ev, sput, Zt, Zz, Yb, unK, Zd, Zw, Nat.reduceBEq, Nat.reduceAdd, Int.reduceBEq, Int.reduceBNe, Int.reduceLT, Zu, Ya, tup, tyf, Xa k8 shp_123, six_load k9 sh, Xh, List.nil_append, List.append_nil, List.toList_toArray, List.cons_append]
  refine gc.mono ?_
  rintro r G2 ⟨e2, fv, gb, hres⟩
  have k2 : KH B0 H.length G2 := kG.go (fv := .slice none 0 0) (fun b hb => by cases hb) e2
  cases hsr : srch (sepB o) (cn o) 1 (s + 1) 0 [] with
  | none =>
    rw [hsr] at hres
    obtain ⟨rfl, f2⟩ := hres
    have hnext : Xb (sepB o) (cn o) 1 (s + 1) = none := by rw [Xb, hshort, hsr]; rfl
    have hs2 : s + 1 < 3 := by
      rcases Nat.lt_or_ge (s + 1) 3 with h | h
      · exact h
      · have : s + 1 = 3 := by omega
        rw [this] at hnext; exact absurd hnext (real_not3 ho)
    simp (maxSteps := 2000000) only [s80, ↓Za, ↓Zn, ↓Zr, ↓Ze, ↓Zj, ↓Zs, ↓Zg, ↓Zh, ↓Zf, ↓Zb, ↓Zc, ↓vdn, vup, Zm, Zk, Zl, Zi, Zo, List.map_cons, List.map_nil, cond_true, cond_false, aop, Zv, Zq, Zp, ev, sput, Zt, Zz, Yb, unK, Zd, Zw, Nat.reduceBEq, Nat.reduceAdd, Int.reduceBEq, Int.reduceBNe, Int.reduceLT, Zu, Ya, tup, tyf, Bool.not_false]
    refine hN21 [(1, .pointer (some ⟨h.length, 0, none⟩)), (2, .slice none 0 0), (3, .pointer (some ⟨h1.length, 0, none⟩)), (4, .pointer (some ⟨h1.length + 1, 0, none⟩)), (7, .pointer (some ⟨H.length, 0, none⟩)), (8, .pointer (some ⟨H.length + 1, 0, none⟩)), (9, .pointer (some ⟨H.length + 2, 0, none⟩)), (11, Zx (s + 1 : Nat)), (44, .bool true)] _ _ ?_ (by simp (maxSteps := 2000000) only [↓Za, ↓Zn, ↓Zr, ↓Ze, ↓Zj, ↓Zs, ↓Zg, ↓Zh, ↓Zf, ↓Zb, ↓Zc, ↓vdn, vup, Zm, Zk, Zl, Zi, Zo, List.map_cons, List.map_nil, cond_true, cond_false, aop, Zv, Zq, Zp, ev, sput, Zt, Zz, Yb, unK, Zd, Zw, Nat.reduceBEq, Nat.reduceAdd, Int.reduceBEq, Int.reduceBNe, Int.reduceLT, Zu, Ya, tup, tyf])
    clear hN21
    try clear N21
    refine Vf rfl ?_
    refine Yn ?_
    simp (maxSteps := 2000000) only [s80, ↓Za, ↓Zn, ↓Zr, ↓Ze, ↓Zj, ↓Zs, ↓Zg, ↓Zh, ↓Zf, ↓Zb, ↓Zc, ↓vdn, vup, Zm, Zk, Zl, Zi, Zo, List.map_cons, List.map_nil, cond_true, cond_false, aop, Zv, Zq, Zp, ev, sput, Zt, Zz, Yb, unK, Zd, Zw, Nat.reduceBEq, Nat.reduceAdd, Int.reduceBEq, Int.reduceBNe, Int.reduceLT, Zu, Ya, tup, tyf]
    refine hC [(1, .pointer (some ⟨h.length, 0, none⟩)), (2, .slice none 0 0), (3, .pointer (some ⟨h1.length, 0, none⟩)), (4, .pointer (some ⟨h1.length + 1, 0, none⟩)), (7, .pointer (some ⟨H.length, 0, none⟩)), (8, .pointer (some ⟨H.length + 1, 0, none⟩)), (9, .pointer (some ⟨H.length + 2, 0, none⟩)), (11, Zx (s + 1 : Nat))] _ _ ?_ (by simp (maxSteps := 2000000) only [↓Za, ↓Zn, ↓Zr, ↓Ze, ↓Zj, ↓Zs, ↓Zg, ↓Zh, ↓Zf, ↓Zb, ↓Zc, ↓vdn, vup, Zm, Zk, Zl, Zi, Zo, List.map_cons, List.map_nil, cond_true, cond_false, aop, Zv, Zq, Zp, ev, sput, Zt, Zz, Yb, unK, Zd, Zw, Nat.reduceBEq, Nat.reduceAdd, Int.reduceBEq, Int.reduceBNe, Int.reduceLT, Zu, Ya, tup, tyf])
    clear hC
    try clear C
    refine Yh fun B hB => ?_
    refine Ym ?_
    refine Yn ?_
    simp (maxSteps := 2000000) only [s80, ↓Za, ↓Zn, ↓Zr, ↓Ze, ↓Zj, ↓Zs, ↓Zg, ↓Zh, ↓Zf, ↓Zb, ↓Zc, ↓vdn, vup, Zm, Zk, Zl, Zi, Zo, List.map_cons, List.map_nil, cond_true, cond_false, aop, Zv, Zq, Zp, ev, sput, Zt, Zz, Yb, unK, Zd, Zw, Nat.reduceBEq, Nat.reduceAdd, Int.reduceBEq, Int.reduceBNe, Int.reduceLT, Zu, Ya, tup, tyf, store1 (v' := .slice none 0 0) f2.bx Xw rfl]
    refine hB [(1, .pointer (some ⟨h.length, 0, none⟩)), (2, .slice none 0 0), (3, .pointer (some ⟨h1.length, 0, none⟩)), (4, .pointer (some ⟨h1.length + 1, 0, none⟩)), (7, .pointer (some ⟨H.length, 0, none⟩)), (8, .pointer (some ⟨H.length + 1, 0, none⟩)), (9, .pointer (some ⟨H.length + 2, 0, none⟩)), (11, Zx (s + 1 : Nat))] _ _ ?_ (by simp (maxSteps := 2000000) only [↓Za, ↓Zn, ↓Zr, ↓Ze, ↓Zj, ↓Zs, ↓Zg, ↓Zh, ↓Zf, ↓Zb, ↓Zc, ↓vdn, vup, Zm, Zk, Zl, Zi, Zo, List.map_cons, List.map_nil, cond_true, cond_false, aop, Zv, Zq, Zp, ev, sput, Zt, Zz, Yb, unK, Zd, Zw, Nat.reduceBEq, Nat.reduceAdd, Int.reduceBEq, Int.reduceBNe, Int.reduceLT, Zu, Ya, tup, tyf])
    clear hB
    try clear B
    refine Yn ?_
    simp (maxSteps := 2000000) only [s80, ↓Za, ↓Zn, ↓Zr, ↓Ze, ↓Zj, ↓Zs, ↓Zg, ↓Zh, ↓Zf, ↓Zb, ↓Zc, ↓vdn, vup, Zm, Zk, Zl, Zi, Zo, List.map_cons, List.map_nil, cond_true, cond_false, aop, Zv, Zq, Zp, ev, sput, Zt, Zz, Yb, unK, Zd, Zw, Nat.reduceBEq, Nat.reduceAdd, Int.reduceBEq, Int.reduceBNe, Int.reduceLT, Zu, Ya, tup, tyf, add1 (show s + 1 < 9223372036854775807 by omega)]
    exact hQ2 _ _ _ ⟨(s + 1, G2.set H.length (.cells [.slice none 0 0] 22 false)), ⟨hs2, hnext, k2.trans (Ext.set _ rfl), Xq (Yk f2.bx) _⟩, by simp only; omega, by simp (maxSteps := 2000000) only [↓Za, ↓Zn, ↓Zr, ↓Ze, ↓Zj, ↓Zs, ↓Zg, ↓Zh, ↓Zf, ↓Zb, ↓Zc, ↓vdn, vup, Zm, Zk, Zl, Zi, Zo, List.map_cons, List.map_nil, cond_true, cond_false, aop, Zv, Zq, Zp, ev, sput, Zt, Zz, Yb, unK, Zd, Zw, Nat.reduceBEq, Nat.reduceAdd, Int.reduceBEq, Int.reduceBNe, Int.reduceLT, Zu, Ya, tup, tyf], rfl⟩
  | some q =>
    rw [hsr] at hres
    obtain ⟨rfl, f2⟩ := hres
    have hreal := real_hit hshort hsr hs
    obtain ⟨ql, qc, qs⟩ := real_q hsr
    simp (maxSteps := 2000000) only [s80, ↓Za, ↓Zn, ↓Zr, ↓Ze, ↓Zj, ↓Zs, ↓Zg, ↓Zh, ↓Zf, ↓Zb, ↓Zc, ↓vdn, vup, Zm, Zk, Zl, Zi, Zo, List.map_cons, List.map_nil, cond_true, cond_false, aop, Zv, Zq, Zp, ev, sput, Zt, Zz, Yb, unK, Zd, Zw, Nat.reduceBEq, Nat.reduceAdd, Int.reduceBEq, Int.reduceBNe, Int.reduceLT, Zu, Ya, tup, tyf, Bool.not_true]
    refine hN21 [(1, .pointer (some ⟨h.length, 0, none⟩)), (2, .slice none 0 0), (3, .pointer (some ⟨h1.length, 0, none⟩)), (4, .pointer (some ⟨h1.length + 1, 0, none⟩)), (7, .pointer (some ⟨H.length, 0, none⟩)), (8, .pointer (some ⟨H.length + 1, 0, none⟩)), (9, .pointer (some ⟨H.length + 2, 0, none⟩)), (11, Zx (s + 1 : Nat)), (44, .bool false)] _ _ ?_ (by simp (maxSteps := 2000000) only [↓Za, ↓Zn, ↓Zr, ↓Ze, ↓Zj, ↓Zs, ↓Zg, ↓Zh, ↓Zf, ↓Zb, ↓Zc, ↓vdn, vup, Zm, Zk, Zl, Zi, Zo, List.map_cons, List.map_nil, cond_true, cond_false, aop, Zv, Zq, Zp, ev, sput, Zt, Zz, Yb, unK, Zd, Zw, Nat.reduceBEq, Nat.reduceAdd, Int.reduceBEq, Int.reduceBNe, Int.reduceLT, Zu, Ya, tup, tyf])
    clear hN21
    try clear N21
    refine Xt rfl ?_
    refine Yn ?_
    simp (maxSteps := 2000000) only [s80, ↓Za, ↓Zn, ↓Zr, ↓Ze, ↓Zj, ↓Zs, ↓Zg, ↓Zh, ↓Zf, ↓Zb, ↓Zc, ↓vdn, vup, Zm, Zk, Zl, Zi, Zo, List.map_cons, List.map_nil, cond_true, cond_false, aop, Zv, Zq, Zp, ev, sput, Zt, Zz, Yb, unK, Zd, Zw, Nat.reduceBEq, Nat.reduceAdd, Int.reduceBEq, Int.reduceBNe, Int.reduceLT, Zu, Ya, tup, tyf]
    refine hQ2 _ _ _ (hQ _ _ _ ?_)
    simp (maxSteps := 2000000) only [s80, ↓Za, ↓Zn, ↓Zr, ↓Ze, ↓Zj, ↓Zs, ↓Zg, ↓Zh, ↓Zf, ↓Zb, ↓Zc, ↓vdn, vup, Zm, Zk, Zl, Zi, Zo, List.map_cons, List.map_nil, cond_true, cond_false, aop, Zv, Zq, Zp, ev, sput, Zt, Zz, Yb, unK, Zd, Zw, Nat.reduceBEq, Nat.reduceAdd, Int.reduceBEq, Int.reduceBNe, Int.reduceLT, Zu, Ya, tup, tyf, if_true]
    refine hZ [(1, .pointer (some ⟨h.length, 0, none⟩)), (2, .slice none 0 0), (3, .pointer (some ⟨h1.length, 0, none⟩)), (4, .pointer (some ⟨h1.length + 1, 0, none⟩)), (7, .pointer (some ⟨H.length, 0, none⟩)), (8, .pointer (some ⟨H.length + 1, 0, none⟩)), (9, .pointer (some ⟨H.length + 2, 0, none⟩))] _ _ ?_ (by simp (maxSteps := 2000000) only [↓Za, ↓Zn, ↓Zr, ↓Ze, ↓Zj, ↓Zs, ↓Zg, ↓Zh, ↓Zf, ↓Zb, ↓Zc, ↓vdn, vup, Zm, Zk, Zl, Zi, Zo, List.map_cons, List.map_nil, cond_true, cond_false, aop, Zv, Zq, Zp, ev, sput, Zt, Zz, Yb, unK, Zd, Zw, Nat.reduceBEq, Nat.reduceAdd, Int.reduceBEq, Int.reduceBNe, Int.reduceLT, Zu, Ya, tup, tyf])
    clear hZ
    try clear Z
    clear hQ hQ2
    have hEB : Ext (fun _ => False) h1 B0 := hE1H.trans yE
    have hE12 : Ext (fun _ => False) h1 G2 := ext_pf hEB k2 (by have := hE1H.1; omega)
    have r3 := k2.at_ re.ab_ re.fa
    have hqN : ∀ k ∈ q, k < cn o := fun k hk => (qc.lt k hk).2
    refine Yc fun N22 hN22 => ?_
    simp (maxSteps := 2000000) only [s80, ↓Za, ↓Zn, ↓Zr, ↓Ze, ↓Zj, ↓Zs, ↓Zg, ↓Zh, ↓Zf, ↓Zb, ↓Zc, ↓vdn, vup, Zm, Zk, Zl, Zi, Zo, List.map_cons, List.map_nil, cond_true, cond_false, aop, Zv, Zq, Zp, ev, sput, Zt, Zz, Yb, unK, Zd, Zw, Nat.reduceBEq, Nat.reduceAdd, Int.reduceBEq, Int.reduceBNe, Int.reduceLT, Zu, Ya, tup, tyf]
    refine hN22 [(1, .pointer (some ⟨h.length, 0, none⟩)), (2, .slice none 0 0), (3, .pointer (some ⟨h1.length, 0, none⟩)), (4, .pointer (some ⟨h1.length + 1, 0, none⟩)), (7, .pointer (some ⟨H.length, 0, none⟩)), (8, .pointer (some ⟨H.length + 1, 0, none⟩)), (9, .pointer (some ⟨H.length + 2, 0, none⟩)), (12, .slice none 0 0)] _ _ ?_ (by simp (maxSteps := 2000000) only [↓Za, ↓Zn, ↓Zr, ↓Ze, ↓Zj, ↓Zs, ↓Zg, ↓Zh, ↓Zf, ↓Zb, ↓Zc, ↓vdn, vup, Zm, Zk, Zl, Zi, Zo, List.map_cons, List.map_nil, cond_true, cond_false, aop, Zv, Zq, Zp, ev, sput, Zt, Zz, Yb, unK, Zd, Zw, Nat.reduceBEq, Nat.reduceAdd, Int.reduceBEq, Int.reduceBNe, Int.reduceLT, Zu, Ya, tup, tyf])
    clear hN22
    try clear N22
    refine Yh fun Z hZ => ?_
    refine Yc fun N23 hN23 => ?_
    simp (maxSteps := 2000000) only [s80, ↓Za, ↓Zn, ↓Zr, ↓Ze, ↓Zj, ↓Zs, ↓Zg, ↓Zh, ↓Zf, ↓Zb, ↓Zc, ↓vdn, vup, Zm, Zk, Zl, Zi, Zo, List.map_cons, List.map_nil, cond_true, cond_false, aop, Zv, Zq, Zp, ev, sput, Zt, Zz, Yb, unK, Zd, Zw, Nat.reduceBEq, Nat.reduceAdd, Int.reduceBEq, Int.reduceBNe, Int.reduceLT, Zu, Ya, tup, tyf, Xa f2.bx Xw, f2.own.int.len, iL_len]
    refine hN23 [(1, .pointer (some ⟨h.length, 0, none⟩)), (2, .slice none 0 0), (3, .pointer (some ⟨h1.length, 0, none⟩)), (4, .pointer (some ⟨h1.length + 1, 0, none⟩)), (7, .pointer (some ⟨H.length, 0, none⟩)), (8, .pointer (some ⟨H.length + 1, 0, none⟩)), (9, .pointer (some ⟨H.length + 2, 0, none⟩)), (12, .slice none 0 0), (47, fv), (48, Zx q.length), (49, .int .i64 0)] _ _ ?_ (by simp (maxSteps := 2000000) only [↓Za, ↓Zn, ↓Zr, ↓Ze, ↓Zj, ↓Zs, ↓Zg, ↓Zh, ↓Zf, ↓Zb, ↓Zc, ↓vdn, vup, Zm, Zk, Zl, Zi, Zo, List.map_cons, List.map_nil, cond_true, cond_false, aop, Zv, Zq, Zp, ev, sput, Zt, Zz, Yb, unK, Zd, Zw, Nat.reduceBEq, Nat.reduceAdd, Int.reduceBEq, Int.reduceBNe, Int.reduceLT, Zu, Ya, tup, tyf])
    clear hN23
    try clear N23
    refine Ym ?_
    refine Yl fun Q hQ => ?_
    refine Wc (γ := Nat × Value × Zy) (fun g => g.1 ≤ q.length ∧ OwnL 22 3 g.2.2 g.2.1 ((q.take g.1).map fun k => Wz (lin o k)) ∧ Ext (fun _ => False) G2 g.2.2 ∧ ∀ b, Yd g.2.1 = some b → G2.length ≤ b)
      (fun g => ([(1, .pointer (some ⟨h.length, 0, none⟩)), (2, .slice none 0 0), (3, .pointer (some ⟨h1.length, 0, none⟩)), (4, .pointer (some ⟨h1.length + 1, 0, none⟩)), (7, .pointer (some ⟨H.length, 0, none⟩)), (8, .pointer (some ⟨H.length + 1, 0, none⟩)), (9, .pointer (some ⟨H.length + 2, 0, none⟩)), (12, g.2.1), (47, fv), (48, Zx q.length), (49, Zx (g.1 : Nat))], g.2.2)) (fun g => q.length - g.1) (0, .slice none 0 0, G2) ⟨Nat.zero_le _, OwnL.nil, Ext.refl _ _, fun b hb => by cases hb⟩ (by simp (maxSteps := 2000000) only [↓Za, ↓Zn, ↓Zr, ↓Ze, ↓Zj, ↓Zs, ↓Zg, ↓Zh, ↓Zf, ↓Zb, ↓Zc, ↓vdn, vup, Zm, Zk, Zl, Zi, Zo, List.map_cons, List.map_nil, cond_true, cond_false, aop, Zv, Zq, Zp, ev, sput, Zt, Zz, Yb, unK, Zd, Zw, Nat.reduceBEq, Nat.reduceAdd, Int.reduceBEq, Int.reduceBNe, Int.reduceLT, Zu, Ya, tup, tyf, Int.natCast_zero]) rfl ?_
    rintro ⟨j, ov, H3⟩ ⟨hj, how3, hE3, hbw3⟩
    simp only at hj how3 hE3 hbw3
    refine Yl fun Q2 hQ2 => ?_
    simp only [l80_3]
    by_cases hjin : (j : Int) < q.length
    · have hj' : j < q.length := by omega
      have hj2 : j < (iL q).length := by rw [iL_len]; exact hj'
      obtain ⟨k, hk⟩ : ∃ k, q.getD j 0 = k := ⟨_, rfl⟩
      have hkN : k < cn o := hqN k (hk ▸ getD_memN hj')
      have hkL : k < (linesI o).length := by omega
      have rl3 := hlv.ext (hE12.trans hE3)
      obtain ⟨w, hw, hwl⟩ := rl3.load (P := prog) Xw hkL
      rw [linesI_get o hkN] at hw
      have fq := (f2.own.ext (S := fun _ => False) hE3 (fun _ _ => id)).int
      have r3' := (hE3.2 _ (Yk r3) id).trans r3
      have hnx : (q.take (j + 1)).map (fun k => Wz (lin o k)) = (q.take j).map (fun k => Wz (lin o k)) ++ [Wz (lin o k)] := by
        rw [List.take_succ, List.getElem?_eq_getElem hj', Option.toList_some, List.map_append, List.map_singleton, ← hk, List.getD, List.getElem?_eq_getElem hj']; rfl
      refine Yc fun N24 hN24 => ?_
      simp (maxSteps := 2000000) only [s80, ↓Za, ↓Zn, ↓Zr, ↓Ze, ↓Zj, ↓Zs, ↓Zg, ↓Zh, ↓Zf, ↓Zb, ↓Zc, ↓vdn, vup, Zm, Zk, Zl, Zi, Zo, List.map_cons, List.map_nil, cond_true, cond_false, aop, Zv, Zq, Zp, ev, sput, Zt, Zz, Yb, unK, Zd, Zw, Nat.reduceBEq, Nat.reduceAdd, Int.reduceBEq, Int.reduceBNe, Int.reduceLT, Zu, Ya, tup, tyf, hjin]
      refine hN24 [(1, .pointer (some ⟨h.length, 0, none⟩)), (2, .slice none 0 0), (3, .pointer (some ⟨h1.length, 0, none⟩)), (4, .pointer (some ⟨h1.length + 1, 0, none⟩)), (7, .pointer (some ⟨H.length, 0, none⟩)), (8, .pointer (some ⟨H.length + 1, 0, none⟩)), (9, .pointer (some ⟨H.length + 2, 0, none⟩)), (12, ov), (47, fv), (48, Zx q.length), (49, Zx (j : Nat)), (50, .bool true)] _ _ ?_ (by simp (maxSteps := 2000000) only [↓Za, ↓Zn, ↓Zr, ↓Ze, ↓Zj, ↓Zs, ↓Zg, ↓Zh, ↓Zf, ↓Zb, ↓Zc, ↓vdn, vup, Zm, Zk, Zl, Zi, Zo, List.map_cons, List.map_nil, cond_true, cond_false, aop, Zv, Zq, Zp, ev, sput, Zt, Zz, Yb, unK, Zd, Zw, Nat.reduceBEq, Nat.reduceAdd, Int.reduceBEq, Int.reduceBNe, Int.reduceLT, Zu, Ya, tup, tyf])
      clear hN24
      try clear N24
      refine Yc fun N25 hN25 => ?_
      simp (maxSteps := 2000000) only [s80, ↓Za, ↓Zn, ↓Zr, ↓Ze, ↓Zj, ↓Zs, ↓Zg, ↓Zh, ↓Zf, ↓Zb, ↓Zc, ↓vdn, vup, Zm, Zk, Zl, Zi, Zo, List.map_cons, List.map_nil, cond_true, cond_false, aop, Zv, Zq, Zp, ev, sput, Zt, Zz, Yb, unK, Zd, Zw, Nat.reduceBEq, Nat.reduceAdd, Int.reduceBEq, Int.reduceBNe, Int.reduceLT, Zu, Ya, tup, tyf]
      refine hN25 [(1, .pointer (some ⟨h.length, 0, none⟩)), (2, .slice none 0 0), (3, .pointer (some ⟨h1.length, 0, none⟩)), (4, .pointer (some ⟨h1.length + 1, 0, none⟩)), (7, .pointer (some ⟨H.length, 0, none⟩)), (8, .pointer (some ⟨H.length + 1, 0, none⟩)), (9, .pointer (some ⟨H.length + 2, 0, none⟩)), (12, ov), (47, fv), (48, Zx q.length), (49, Zx (j : Nat))] _ _ ?_ (by simp (maxSteps := 2000000) only [↓Za, ↓Zn, ↓Zr, ↓Ze, ↓Zj, ↓Zs, ↓Zg, ↓Zh, ↓Zf, ↓Zb, ↓Zc, ↓vdn, vup, Zm, Zk, Zl, Zi, Zo, List.map_cons, List.map_nil, cond_true, cond_false, aop, Zv, Zq, Zp, ev, sput, Zt, Zz, Yb, unK, Zd, Zw, Nat.reduceBEq, Nat.reduceAdd, Int.reduceBEq, Int.reduceBNe, Int.reduceLT, Zu, Ya, tup, tyf])
      clear hN25
      try clear N25
      refine Yh fun B hB => ?_
      refine Ym ?_
      refine Yc fun N26 hN26 => ?_
      simp (maxSteps := 2000000) only [s80, ↓Za, ↓Zn, ↓Zr, ↓Ze, ↓Zj, ↓Zs, ↓Zg, ↓Zh, ↓Zf, ↓Zb, ↓Zc, ↓vdn, vup, Zm, Zk, Zl, Zi, Zo, List.map_cons, List.map_nil, cond_true, cond_false, aop, Zv, Zq, Zp, ev, sput, Zt, Zz, Yb, unK, Zd, Zw, Nat.reduceBEq, Nat.reduceAdd, Int.reduceBEq, Int.reduceBNe, Int.reduceLT, Zu, Ya, tup, tyf, fq.idx Wq Xx hj2, fq.load Yv hj2, iL_get, hk]
      refine hN26 [(1, .pointer (some ⟨h.length, 0, none⟩)), (2, .slice none 0 0), (3, .pointer (some ⟨h1.length, 0, none⟩)), (4, .pointer (some ⟨h1.length + 1, 0, none⟩)), (7, .pointer (some ⟨H.length, 0, none⟩)), (8, .pointer (some ⟨H.length + 1, 0, none⟩)), (9, .pointer (some ⟨H.length + 2, 0, none⟩)), (12, ov), (14, Zx (k : Nat)), (47, fv), (48, Zx q.length), (49, Zx (j : Nat))] _ _ ?_ (by simp (maxSteps := 2000000) only [↓Za, ↓Zn, ↓Zr, ↓Ze, ↓Zj, ↓Zs, ↓Zg, ↓Zh, ↓Zf, ↓Zb, ↓Zc, ↓vdn, vup, Zm, Zk, Zl, Zi, Zo, List.map_cons, List.map_nil, cond_true, cond_false, aop, Zv, Zq, Zp, ev, sput, Zt, Zz, Yb, unK, Zd, Zw, Nat.reduceBEq, Nat.reduceAdd, Int.reduceBEq, Int.reduceBNe, Int.reduceLT, Zu, Ya, tup, tyf])
      clear hN26
      try clear N26
      refine Yn ?_
      simp (maxSteps := 2000000) only [s80, ↓Za, ↓Zn, ↓Zr, ↓Ze, ↓Zj, ↓Zs, ↓Zg, ↓Zh, ↓Zf, ↓Zb, ↓Zc, ↓vdn, vup, Zm, Zk, Zl, Zi, Zo, List.map_cons, List.map_nil, cond_true, cond_false, aop, Zv, Zq, Zp, ev, sput, Zt, Zz, Yb, unK, Zd, Zw, Nat.reduceBEq, Nat.reduceAdd, Int.reduceBEq, Int.reduceBNe, Int.reduceLT, Zu, Ya, tup, tyf, Xa r3' shp_45, rl3.idx el_45 esz_22 hkL, hwl, List.map_toArray, buildSl1 el_45 zero_22 esz_22 hw]
      have hval : ValSl (H3 ++ [Blk.cells [w] 22 false]) (.slice (some ⟨H3.length, 0, none⟩) 1 1) [w] := .inr ⟨H3.length, 0, none, 1, [w], 22, false, rfl, Nat.le_refl _, by simp [view, Blk.view], rfl⟩
      refine OwnL.app (how3.ext (Ext.app _ _ _)) app_45_45 hval (OwnL.single hw) (by rw [List.length_map, List.length_take, List.length_singleton]; omega) ?_
      intro ov' G3 ho' hE' hb'
      rw [← hnx] at ho'
      have hEn : Ext (fun _ => False) G2 G3 := ext_app hE3 (H' := H3 ++ [Blk.cells [w] 22 false]) (by simp) (fun q hq => List.getElem?_append_left (by have := hE3.1; omega)) (fun b hb => hbw3 b hb) hE'
      have hbw' : ∀ b, Yd ov' = some b → G2.length ≤ b := fun b hb => by
        rcases hb' with h1 | ⟨b', h1, h2⟩
        · exact hbw3 b (h1 ▸ hb)
        · rw [h1] at hb; cases hb
          rw [List.length_append] at h2
          have := hE3.1; omega
      refine hB [(1, .pointer (some ⟨h.length, 0, none⟩)), (2, .slice none 0 0), (3, .pointer (some ⟨h1.length, 0, none⟩)), (4, .pointer (some ⟨h1.length + 1, 0, none⟩)), (7, .pointer (some ⟨H.length, 0, none⟩)), (8, .pointer (some ⟨H.length + 1, 0, none⟩)), (9, .pointer (some ⟨H.length + 2, 0, none⟩)), (12, ov'), (47, fv), (48, Zx q.length), (49, Zx (j : Nat))] _ _ ?_ (by simp (maxSteps := 2000000) only [↓Za, ↓Zn, ↓Zr, ↓Ze, ↓Zj, ↓Zs, ↓Zg, ↓Zh, ↓Zf, ↓Zb, ↓Zc, ↓vdn, vup, Zm, Zk, Zl, Zi, Zo, List.map_cons, List.map_nil, cond_true, cond_false, aop, Zv, Zq, Zp, ev, sput, Zt, Zz, Yb, unK, Zd, Zw, Nat.reduceBEq, Nat.reduceAdd, Int.reduceBEq, Int.reduceBNe, Int.reduceLT, Zu, Ya, tup, tyf])
      clear hB
      try clear B
      refine Yn ?_
      simp (maxSteps := 2000000) only [s80, ↓Za, ↓Zn, ↓Zr, ↓Ze, ↓Zj, ↓Zs, ↓Zg, ↓Zh, ↓Zf, ↓Zb, ↓Zc, ↓vdn, vup, Zm, Zk, Zl, Zi, Zo, List.map_cons, List.map_nil, cond_true, cond_false, aop, Zv, Zq, Zp, ev, sput, Zt, Zz, Yb, unK, Zd, Zw, Nat.reduceBEq, Nat.reduceAdd, Int.reduceBEq, Int.reduceBNe, Int.reduceLT, Zu, Ya, tup, tyf, add1 (show j < 9223372036854775807 by omega)]
      exact hQ2 _ _ _ ⟨(j + 1, ov', G3), ⟨hj', ho', hEn, hbw'⟩, by simp only; omega, by simp (maxSteps := 2000000) only [↓Za, ↓Zn, ↓Zr, ↓Ze, ↓Zj, ↓Zs, ↓Zg, ↓Zh, ↓Zf, ↓Zb, ↓Zc, ↓vdn, vup, Zm, Zk, Zl, Zi, Zo, List.map_cons, List.map_nil, cond_true, cond_false, aop, Zv, Zq, Zp, ev, sput, Zt, Zz, Yb, unK, Zd, Zw, Nat.reduceBEq, Nat.reduceAdd, Int.reduceBEq, Int.reduceBNe, Int.reduceLT, Zu, Ya, tup, tyf], rfl⟩
    obtain rfl : j = q.length := by omega
    rw [List.take_length] at how3
    refine Yc fun N27 hN27 => ?_
    simp (maxSteps := 2000000) only [s80, ↓Za, ↓Zn, ↓Zr, ↓Ze, ↓Zj, ↓Zs, ↓Zg, ↓Zh, ↓Zf, ↓Zb, ↓Zc, ↓vdn, vup, Zm, Zk, Zl, Zi, Zo, List.map_cons, List.map_nil, cond_true, cond_false, aop, Zv, Zq, Zp, ev, sput, Zt, Zz, Yb, unK, Zd, Zw, Nat.reduceBEq, Nat.reduceAdd, Int.reduceBEq, Int.reduceBNe, Int.reduceLT, Zu, Ya, tup, tyf, hjin]
    refine hN27 [(1, .pointer (some ⟨h.length, 0, none⟩)), (2, .slice none 0 0), (3, .pointer (some ⟨h1.length, 0, none⟩)), (4, .pointer (some ⟨h1.length + 1, 0, none⟩)), (7, .pointer (some ⟨H.length, 0, none⟩)), (8, .pointer (some ⟨H.length + 1, 0, none⟩)), (9, .pointer (some ⟨H.length + 2, 0, none⟩)), (12, ov), (47, fv), (48, Zx q.length), (49, Zx q.length), (50, .bool false)] _ _ ?_ (by simp (maxSteps := 2000000) only [↓Za, ↓Zn, ↓Zr, ↓Ze, ↓Zj, ↓Zs, ↓Zg, ↓Zh, ↓Zf, ↓Zb, ↓Zc, ↓vdn, vup, Zm, Zk, Zl, Zi, Zo, List.map_cons, List.map_nil, cond_true, cond_false, aop, Zv, Zq, Zp, ev, sput, Zt, Zz, Yb, unK, Zd, Zw, Nat.reduceBEq, Nat.reduceAdd, Int.reduceBEq, Int.reduceBNe, Int.reduceLT, Zu, Ya, tup, tyf])
    clear hN27
    try clear N27
    refine Yc fun N28 hN28 => ?_
    simp (maxSteps := 2000000) only [s80, ↓Za, ↓Zn, ↓Zr, ↓Ze, ↓Zj, ↓Zs, ↓Zg, ↓Zh, ↓Zf, ↓Zb, ↓Zc, ↓vdn, vup, Zm, Zk, Zl, Zi, Zo, List.map_cons, List.map_nil, cond_true, cond_false, aop, Zv, Zq, Zp, ev, sput, Zt, Zz, Yb, unK, Zd, Zw, Nat.reduceBEq, Nat.reduceAdd, Int.reduceBEq, Int.reduceBNe, Int.reduceLT, Zu, Ya, tup, tyf]
    refine hQ2 _ _ _ (hQ _ _ _ ?_)
    simp (maxSteps := 2000000) only [s80, ↓Za, ↓Zn, ↓Zr, ↓Ze, ↓Zj, ↓Zs, ↓Zg, ↓Zh, ↓Zf, ↓Zb, ↓Zc, ↓vdn, vup, Zm, Zk, Zl, Zi, Zo, List.map_cons, List.map_nil, cond_true, cond_false, aop, Zv, Zq, Zp, ev, sput, Zt, Zz, Yb, unK, Zd, Zw, Nat.reduceBEq, Nat.reduceAdd, Int.reduceBEq, Int.reduceBNe, Int.reduceLT, Zu, Ya, tup, tyf, if_true]
    refine hZ [(1, .pointer (some ⟨h.length, 0, none⟩)), (2, .slice none 0 0), (3, .pointer (some ⟨h1.length, 0, none⟩)), (4, .pointer (some ⟨h1.length + 1, 0, none⟩)), (7, .pointer (some ⟨H.length, 0, none⟩)), (8, .pointer (some ⟨H.length + 1, 0, none⟩)), (9, .pointer (some ⟨H.length + 2, 0, none⟩)), (12, ov)] _ _ ?_ (by simp (maxSteps := 2000000) only [↓Za, ↓Zn, ↓Zr, ↓Ze, ↓Zj, ↓Zs, ↓Zg, ↓Zh, ↓Zf, ↓Zb, ↓Zc, ↓vdn, vup, Zm, Zk, Zl, Zi, Zo, List.map_cons, List.map_nil, cond_true, cond_false, aop, Zv, Zq, Zp, ev, sput, Zt, Zz, Yb, unK, Zd, Zw, Nat.reduceBEq, Nat.reduceAdd, Int.reduceBEq, Int.reduceBNe, Int.reduceLT, Zu, Ya, tup, tyf])
    clear hZ
    try clear Z
    refine Yn ?_
    simp (maxSteps := 2000000) only [s80, ↓Za, ↓Zn, ↓Zr, ↓Ze, ↓Zj, ↓Zs, ↓Zg, ↓Zh, ↓Zf, ↓Zb, ↓Zc, ↓vdn, vup, Zm, Zk, Zl, Zi, Zo, List.map_cons, List.map_nil, cond_true, cond_false, aop, Zv, Zq, Zp, ev, sput, Zt, Zz, Yb, unK, Zd, Zw, Nat.reduceBEq, Nat.reduceAdd, Int.reduceBEq, Int.reduceBNe, Int.reduceLT, Zu, Ya, tup, tyf]
    refine ⟨by rw [realLL, hreal]; exact how3.rd, (e0.trans hE1).trans (hE12.trans hE3)⟩

/-- What Real hands back. -/
def RealIs (o : List Int) (h' : Zy) (x : Value) (e : Int) : Prop := if ord o = true then e = 0 ∧ RdL 3 h' x (realLL o) else x = .slice none 0 0 ∧ e = 2
theorem real_call [BitTab prog 1] {h : Zy} {v : Value} {o : List Int} (hv : IntSl h v o) (hl : o.length < 9223372036854775808) (hx : ∀ x ∈ o, -9223372036854775808 ≤ x ∧ x < 9223372036854775808) :
    ACall prog 43 [v] h fun r h' => Ext (fun _ => False) h h' ∧ ∃ x e, r = .tuple #[x, .int .i64 e] ∧ RealIs o h' x e := by
  refine s43_call (by simp) ?_
  simp only [s43]
  simp (maxSteps := 2000000) only [s43, ↓Za, ↓Zn, ↓Zr, ↓Ze, ↓Zj, ↓Zs, ↓Zg, ↓Zh, ↓Zf, ↓Zb, ↓Zc, ↓vdn, vup, Zm, Zk, Zl, Zi, Zo, List.map_cons, List.map_nil, cond_true, cond_false, aop, Zv, Zq, Zp, ev, sput, Zt, Zz, Yb, unK, Zd, Zw, Nat.reduceBEq, Nat.reduceAdd, Int.reduceBEq, Int.reduceBNe, Int.reduceLT, Zu, Ya, tup, tyf, Xh, List.nil_append, List.append_nil, List.toList_toArray, List.cons_append]
  refine (read_call hv hl hx).mono ?_
  rintro _ g ⟨rfl, rfl⟩
  simp (maxSteps := 2000000) only [s43, ↓Za, ↓Zn, ↓Zr, ↓Ze, ↓Zj, ↓Zs, ↓Zg, ↓Zh, ↓Zf, ↓Zb, ↓Zc, ↓vdn, vup, Zm, Zk, Zl, Zi, Zo, List.map_cons, List.map_nil, cond_true, cond_false, aop, Zv, Zq, Zp, ev, sput, Zt, Zz, Yb, unK, Zd, Zw, Nat.reduceBEq, Nat.reduceAdd, Int.reduceBEq, Int.reduceBNe, Int.reduceLT, Zu, Ya, tup, tyf, Xz, Xc, zeroN, zero_77]
  rw [storeRd]
  obtain ⟨hE, hb⟩ := rdBox g o
  generalize hgl : g.length = gl at hE hb ⊢
  generalize (g ++ [Blk.cells (ordN 0) 77 false]).set gl (.cells (rdC o) 77 false) = G at hE hb ⊢
  cases ho : ord o with
  | false =>
    simp (maxSteps := 2000000) only [s43, ↓Za, ↓Zn, ↓Zr, ↓Ze, ↓Zj, ↓Zs, ↓Zg, ↓Zh, ↓Zf, ↓Zb, ↓Zc, ↓vdn, vup, Zm, Zk, Zl, Zi, Zo, List.map_cons, List.map_nil, cond_true, cond_false, aop, Zv, Zq, Zp, ev, sput, Zt, Zz, Yb, unK, Zd, Zw, Nat.reduceBEq, Nat.reduceAdd, Int.reduceBEq, Int.reduceBNe, Int.reduceLT, Zu, Ya, tup, tyf, ho]
    exact ⟨hE, _, _, rfl, by rw [RealIs, ho]; exact ⟨rfl, rfl⟩⟩
  | true =>
    have hrd : rdC o = Wr o := if_pos (Xi ho)
    rw [hrd] at hb
    simp (maxSteps := 2000000) only [s43, ↓Za, ↓Zn, ↓Zr, ↓Ze, ↓Zj, ↓Zs, ↓Zg, ↓Zh, ↓Zf, ↓Zb, ↓Zc, ↓vdn, vup, Zm, Zk, Zl, Zi, Zo, List.map_cons, List.map_nil, cond_true, cond_false, aop, Zv, Zq, Zp, ev, sput, Zt, Zz, Yb, unK, Zd, Zw, Nat.reduceBEq, Nat.reduceAdd, Int.reduceBEq, Int.reduceBNe, Int.reduceLT, Zu, Ya, tup, tyf, ho, loadO hb Xn (Xi ho).2, Xh, List.nil_append, List.append_nil, List.toList_toArray, List.cons_append]
    refine (realizer_call ho).mono ?_
    rintro r H ⟨hr, hEH⟩
    exact ⟨hE.trans hEH, _, _, rfl, by rw [RealIs, ho]; exact ⟨rfl, hr⟩⟩
/-- What Dim hands back. -/
def dimV (o : List Int) : Value := if ord o = true then .tuple #[Zx (realL o).length, .int .i64 0] else .tuple #[.int .i64 0, .int .i64 2]
theorem dim_call [BitTab prog 1] {h : Zy} {v : Value} {o : List Int} (hv : IntSl h v o) (hl : o.length < 9223372036854775808) (hx : ∀ x ∈ o, -9223372036854775808 ≤ x ∧ x < 9223372036854775808) : Vn prog 44 [v] h (dimV o) := by
  have hlow : Low (dimV o) := by unfold dimV; split <;> exact .pair (.int _ _) (.int _ _)
  refine ACall.forget hlow ?_
  refine s44_call (by simp) ?_
  simp only [s44]
  simp (maxSteps := 2000000) only [s44, ↓Za, ↓Zn, ↓Zr, ↓Ze, ↓Zj, ↓Zs, ↓Zg, ↓Zh, ↓Zf, ↓Zb, ↓Zc, ↓vdn, vup, Zm, Zk, Zl, Zi, Zo, List.map_cons, List.map_nil, cond_true, cond_false, aop, Zv, Zq, Zp, ev, sput, Zt, Zz, Yb, unK, Zd, Zw, Nat.reduceBEq, Nat.reduceAdd, Int.reduceBEq, Int.reduceBNe, Int.reduceLT, Zu, Ya, tup, tyf, Xh, List.nil_append, List.append_nil, List.toList_toArray, List.cons_append]
  refine (real_call hv hl hx).mono ?_
  rintro _ G ⟨hE, x, e, rfl, hr⟩
  cases ho : ord o with
  | false =>
    rw [RealIs, ho, if_neg (by decide)] at hr
    obtain ⟨rfl, rfl⟩ := hr
    simp (maxSteps := 2000000) only [s44, ↓Za, ↓Zn, ↓Zr, ↓Ze, ↓Zj, ↓Zs, ↓Zg, ↓Zh, ↓Zf, ↓Zb, ↓Zc, ↓vdn, vup, Zm, Zk, Zl, Zi, Zo, List.map_cons, List.map_nil, cond_true, cond_false, aop, Zv, Zq, Zp, ev, sput, Zt, Zz, Yb, unK, Zd, Zw, Nat.reduceBEq, Nat.reduceAdd, Int.reduceBEq, Int.reduceBNe, Int.reduceLT, Zu, Ya, tup, tyf, lenK, Int.natCast_zero]
    exact ⟨by rw [dimV, ho]; rfl, hE⟩
  | true =>
    rw [RealIs, ho, if_pos rfl] at hr
    obtain ⟨rfl, hr⟩ := hr
    have hlr : (realLL o).length = (realL o).length := by rw [realLL, List.length_map]
    simp (maxSteps := 2000000) only [s44, ↓Za, ↓Zn, ↓Zr, ↓Ze, ↓Zj, ↓Zs, ↓Zg, ↓Zh, ↓Zf, ↓Zb, ↓Zc, ↓vdn, vup, Zm, Zk, Zl, Zi, Zo, List.map_cons, List.map_nil, cond_true, cond_false, aop, Zv, Zq, Zp, ev, sput, Zt, Zz, Yb, unK, Zd, Zw, Nat.reduceBEq, Nat.reduceAdd, Int.reduceBEq, Int.reduceBNe, Int.reduceLT, Zu, Ya, tup, tyf, hr.len, hlr]
    exact ⟨by rw [dimV, ho]; rfl, hE⟩
end Go.Proofs.Tryd.Am

/-
  order: the realizer; Real and Dim.
  order: the reference's realizer, one level after another.
-/
import Derived.Test.YtnjacpfahhjpiaaDoorPk8
set_option linter.all false
namespace Go.Proofs.Tryd.Am
open Go.Am Ord
set_option maxRecDepth 100000
set_option maxHeartbeats 4000000

theorem Vj {P : List Nat → Bool} {N d s : Nat} {q : List Nat} (h : Yr P N d s = some q) : Yr P N d (s + 1) = some q := by rw [Yr, h]; rfl
theorem real_hit {o : List Int} {s : Nat} {q : List Nat} (h : Yr (sepB o) (cn o) 1 s = none) (hq : srch (sepB o) (cn o) 1 (s + 1) 0 [] = some q) (hs : s < 3) : realL o = q := by
  have h1 : Yr (sepB o) (cn o) 1 (s + 1) = some q := by rw [Yr, h, hq]; rfl
  have h3 : Yr (sepB o) (cn o) 1 3 = some q := by
    have : s = 0 ∨ s = 1 ∨ s = 2 := by omega
    rcases this with rfl | rfl | rfl
    · exact Vj (Vj h1)
    · exact Vj h1
    · exact h1
  rw [realL, h3]; rfl
theorem real_not3 {o : List Int} (ho : ord o = true) : Yr (sepB o) (cn o) 1 3 ≠ none := fun h => by
  obtain ⟨A, t, ha, hc, h1, h3, hA, hs⟩ := real_ex ho
  rw [shortest_none h t h1 h3 hc] at hs; cases hs
theorem real_q {o : List Int} {s : Nat} {q : List Nat} (hq : srch (sepB o) (cn o) 1 s 0 [] = some q) : q.length = s ∧ Cmp (cn o) 1 0 q ∧ sepB o q = true := by
  obtain ⟨t, rfl, h2, h3, h4⟩ := srch_some hq
  exact ⟨by simpa using h2, by simpa using h3, h4⟩
/-- The realizer's lines. -/
def realLL (o : List Int) : List (List Int) := (realL o).map fun k => Wp (lin o k)
theorem ext_pf {h B H : Yb} {pf : Nat} (h1 : Ext (fun _ => False) h B) (h2 : Ext (fun b => b = pf) B H) (hp : h.length ≤ pf) : Ext (fun _ => False) h H :=
  ⟨Nat.le_trans h1.1 h2.1, fun i hi _ => (h2.2 i (Nat.lt_of_lt_of_le hi h1.1) (by omega)).trans (h1.2 i hi id)⟩
theorem setEnd (g : Yb) (B C : Blk) : (g ++ [B]).set g.length C = g ++ [C] := by rw [List.set_append_right _ _ (Nat.le_refl _), Nat.sub_self]; rfl
theorem rdL_one {e2 : TypeId} {h : Yb} {v : Value} {Ls : List (List Int)} (hv : RdL e2 h v Ls) : one v = true := by
  obtain ⟨ws, h1, _⟩ := hv
  rcases h1 with ⟨rfl, _⟩ | ⟨b, o, sp, cap, c, e, ro, rfl, _⟩ <;> rfl

theorem s80_callW [Tabs Tryd.prog] {args : List Value} {h : Yb} {Q : Value → Yb → Prop} (hsz : args.length ≤ 62) (hk : AWS Tryd.prog 62 s80 (Zu Tryd.prog [.tmp 2] Q) (Zp 0 args) h) : ACall Tryd.prog 80 args h Q :=
  acall_w Tryd.func80 rfl (enters_of Tryd.func80 (by kernel_rfl) rfl) rfl rfl (by decide) s80_strip s80_ok hsz hk
theorem realizer_call [BitTab prog 1] {h : Yb} {o : List Int} (ho : ord o = true) : ACall prog 80 [ordV o] h fun r h' => RdL 3 h' r (realLL o) ∧ Ext (fun _ => False) h h' := by
  have hln := Xk ho
  have hcn := cn_le ho
  have hp := pow6 hln.2
  have sh : shp prog 121 = some (some 6) := shp_121
  have hLl : (linesI o).length = cn o := linesI_len o
  refine s80_callW (by simp) ?_
  simp only [s80]
  obtain ⟨g0, hg0⟩ : ∃ z, z = h ++ [Blk.cells (Ww o) 77 false] := ⟨_, rfl⟩
  have e0 : Ext (fun _ => False) h g0 := by rw [hg0]; exact Ext.app _ _ _
  have b1 : g0[h.length]? = some (.cells (Ww o) 77 false) := by rw [hg0]; exact Yv _ _
  refine Yc fun N1 hN1 => ?_
  simp (maxSteps := 2000000) only [s80, ↓Za, ↓Zm, ↓Zr, ↓Ze, ↓Zk, ↓Zs, ↓Zf, ↓Zi, ↓Zg, ↓Zc, ↓Zb, ↓vdn, vup, Zl, Zn, Zh, Zj, Zo, List.map_cons, List.map_nil, cond_true, cond_false, aop, Zv, Zq, Zp, ev, sput, Zt, Zy, Ya, unK, Zd, Zw, Nat.reduceBEq, Nat.reduceAdd, Int.reduceBEq, Int.reduceBNe, Int.reduceLT, Zu, Zz, tup, tyf, boxO esz_77, Xg]
  rw [← hg0]
  refine hN1 [(1, .pointer (some ⟨h.length, 0, none⟩)), (2, .slice none 0 0)] _ _ ?_ (by simp (maxSteps := 2000000) only [↓Za, ↓Zm, ↓Zr, ↓Ze, ↓Zk, ↓Zs, ↓Zf, ↓Zi, ↓Zg, ↓Zc, ↓Zb, ↓vdn, vup, Zl, Zn, Zh, Zj, Zo, List.map_cons, List.map_nil, cond_true, cond_false, aop, Zv, Zq, Zp, ev, sput, Zt, Zy, Ya, unK, Zd, Zw, Nat.reduceBEq, Nat.reduceAdd, Int.reduceBEq, Int.reduceBNe, Int.reduceLT, Zu, Zz, tup, tyf])
  clear hN1
  try clear N1
  refine Yc fun N2 hN2 => ?_
  simp (maxSteps := 2000000) only [s80, ↓Za, ↓Zm, ↓Zr, ↓Ze, ↓Zk, ↓Zs, ↓Zf, ↓Zi, ↓Zg, ↓Zc, ↓Zb, ↓vdn, vup, Zl, Zn, Zh, Zj, Zo, List.map_cons, List.map_nil, cond_true, cond_false, aop, Zv, Zq, Zp, ev, sput, Zt, Zy, Ya, unK, Zd, Zw, Nat.reduceBEq, Nat.reduceAdd, Int.reduceBEq, Int.reduceBNe, Int.reduceLT, Zu, Zz, tup, tyf, Xf, List.nil_append, List.append_nil, List.toList_toArray, List.cons_append, loadO b1 Xr hln.2]
  refine (lines75_call ho).mono ?_
  rintro lv h1 ⟨hlv, hE1⟩
  have st3 : ∀ {K : Yb → Prop}, Wa prog (h1 ++ [Blk.cells [.slice none 0 0] 45 false]) 45 (.pointer (some ⟨h1.length, 0, none⟩)) lv K = K (h1 ++ [Blk.cells [lv] 45 false]) := fun {K} => by
    rw [store1 (Yv _ _) shp_45 (rdL_one hlv), setEnd]
  simp (maxSteps := 2000000) only [s80, ↓Za, ↓Zm, ↓Zr, ↓Ze, ↓Zk, ↓Zs, ↓Zf, ↓Zi, ↓Zg, ↓Zc, ↓Zb, ↓vdn, vup, Zl, Zn, Zh, Zj, Zo, List.map_cons, List.map_nil, cond_true, cond_false, aop, Zv, Zq, Zp, ev, sput, Zt, Zy, Ya, unK, Zd, Zw, Nat.reduceBEq, Nat.reduceAdd, Int.reduceBEq, Int.reduceBNe, Int.reduceLT, Zu, Zz, tup, tyf, We, Xg, zero_45, st3]
  refine hN2 [(1, .pointer (some ⟨h.length, 0, none⟩)), (2, .slice none 0 0), (3, .pointer (some ⟨h1.length, 0, none⟩))] _ _ ?_ (by simp (maxSteps := 2000000) only [↓Za, ↓Zm, ↓Zr, ↓Ze, ↓Zk, ↓Zs, ↓Zf, ↓Zi, ↓Zg, ↓Zc, ↓Zb, ↓vdn, vup, Zl, Zn, Zh, Zj, Zo, List.map_cons, List.map_nil, cond_true, cond_false, aop, Zv, Zq, Zp, ev, sput, Zt, Zy, Ya, unK, Zd, Zw, Nat.reduceBEq, Nat.reduceAdd, Int.reduceBEq, Int.reduceBNe, Int.reduceLT, Zu, Zz, tup, tyf])
  clear hN2
  try clear N2
  obtain ⟨H0, hH0⟩ : ∃ z, z = h1 ++ [Blk.cells [lv] 45 false] ++ [Blk.cells [.slice none 0 0] 120 false] := ⟨_, rfl⟩
  have hE10 : Ext (fun _ => False) h1 H0 := by rw [hH0]; simp only [List.append_assoc]; exact Ext.app _ _ _
  have c1 : H0[h.length]? = some (.cells (Ww o) 77 false) := ((hE1.trans hE10).2 _ (Yn b1) id).trans b1
  have c3 : H0[h1.length]? = some (.cells [lv] 45 false) := by rw [hH0]; simp
  have c4 : H0[h1.length + 1]? = some (.cells [.slice none 0 0] 120 false) := by rw [hH0]; simp
  have lH0 : H0.length = h1.length + 2 := by rw [hH0]; simp
  have hph := Yn b1
  have hg01 := hE1.1
  refine Yc fun N3 hN3 => ?_
  simp (maxSteps := 2000000) only [s80, ↓Za, ↓Zm, ↓Zr, ↓Ze, ↓Zk, ↓Zs, ↓Zf, ↓Zi, ↓Zg, ↓Zc, ↓Zb, ↓vdn, vup, Zl, Zn, Zh, Zj, Zo, List.map_cons, List.map_nil, cond_true, cond_false, aop, Zv, Zq, Zp, ev, sput, Zt, Zy, Ya, unK, Zd, Zw, Nat.reduceBEq, Nat.reduceAdd, Int.reduceBEq, Int.reduceBNe, Int.reduceLT, Zu, Zz, tup, tyf, We, Xg, zero_120, List.length_append, List.length_singleton]
  rw [← hH0]
  refine hN3 [(1, .pointer (some ⟨h.length, 0, none⟩)), (2, .slice none 0 0), (3, .pointer (some ⟨h1.length, 0, none⟩)), (4, .pointer (some ⟨h1.length + 1, 0, none⟩))] _ _ ?_ (by simp (maxSteps := 2000000) only [↓Za, ↓Zm, ↓Zr, ↓Ze, ↓Zk, ↓Zs, ↓Zf, ↓Zi, ↓Zg, ↓Zc, ↓Zb, ↓vdn, vup, Zl, Zn, Zh, Zj, Zo, List.map_cons, List.map_nil, cond_true, cond_false, aop, Zv, Zq, Zp, ev, sput, Zt, Zy, Ya, unK, Zd, Zw, Nat.reduceBEq, Nat.reduceAdd, Int.reduceBEq, Int.reduceBNe, Int.reduceLT, Zu, Zz, tup, tyf])
  clear hN3
  try clear N3
  refine Yh fun Z hZ => ?_
  refine Yc fun N4 hN4 => ?_
  simp (maxSteps := 2000000) only [s80, ↓Za, ↓Zm, ↓Zr, ↓Ze, ↓Zk, ↓Zs, ↓Zf, ↓Zi, ↓Zg, ↓Zc, ↓Zb, ↓vdn, vup, Zl, Zn, Zh, Zj, Zo, List.map_cons, List.map_nil, cond_true, cond_false, aop, Zv, Zq, Zp, ev, sput, Zt, Zy, Ya, unK, Zd, Zw, Nat.reduceBEq, Nat.reduceAdd, Int.reduceBEq, Int.reduceBNe, Int.reduceLT, Zu, Zz, tup, tyf, Xi c3 shp_45, hlv.len, hLl]
  refine hN4 [(1, .pointer (some ⟨h.length, 0, none⟩)), (2, .slice none 0 0), (3, .pointer (some ⟨h1.length, 0, none⟩)), (4, .pointer (some ⟨h1.length + 1, 0, none⟩)), (17, lv), (18, Zx (cn o : Nat)), (19, .int .i64 0)] _ _ ?_ (by simp (maxSteps := 2000000) only [↓Za, ↓Zm, ↓Zr, ↓Ze, ↓Zk, ↓Zs, ↓Zf, ↓Zi, ↓Zg, ↓Zc, ↓Zb, ↓vdn, vup, Zl, Zn, Zh, Zj, Zo, List.map_cons, List.map_nil, cond_true, cond_false, aop, Zv, Zq, Zp, ev, sput, Zt, Zy, Ya, unK, Zd, Zw, Nat.reduceBEq, Nat.reduceAdd, Int.reduceBEq, Int.reduceBNe, Int.reduceLT, Zu, Zz, tup, tyf])
  clear hN4
  try clear N4
  refine Yk ?_
  refine Yf fun Q hQ => ?_
  refine Xt (γ := Nat × Value × Yb) (fun g => g.1 ≤ cn o ∧ g.2.2[h1.length + 1]? = some (.cells [g.2.1] 120 false) ∧ Own6 121 g.2.2 g.2.1 (((Yy o).take g.1).map bhF) ∧ Ext (fun b => b = h1.length + 1) H0 g.2.2 ∧ ∀ b, Yd g.2.1 = some b → H0.length ≤ b)
    (fun g => ([(1, .pointer (some ⟨h.length, 0, none⟩)), (2, .slice none 0 0), (3, .pointer (some ⟨h1.length, 0, none⟩)), (4, .pointer (some ⟨h1.length + 1, 0, none⟩)), (17, lv), (18, Zx (cn o : Nat)), (19, Zx (g.1 : Nat))], g.2.2)) (fun g => cn o - g.1) (0, .slice none 0 0, H0) ⟨Nat.zero_le _, c4, .inl ⟨rfl, rfl⟩, Ext.refl _ _, fun b hb => by cases hb⟩ (by simp (maxSteps := 2000000) only [↓Za, ↓Zm, ↓Zr, ↓Ze, ↓Zk, ↓Zs, ↓Zf, ↓Zi, ↓Zg, ↓Zc, ↓Zb, ↓vdn, vup, Zl, Zn, Zh, Zj, Zo, List.map_cons, List.map_nil, cond_true, cond_false, aop, Zv, Zq, Zp, ev, sput, Zt, Zy, Ya, unK, Zd, Zw, Nat.reduceBEq, Nat.reduceAdd, Int.reduceBEq, Int.reduceBNe, Int.reduceLT, Zu, Zz, tup, tyf, Int.natCast_zero]) rfl ?_
  rintro ⟨j, sv, H⟩ ⟨hj, d4, how, hEH, hbw⟩
  simp only at hj d4 how hEH hbw
  refine Yf fun Q2 hQ2 => ?_
  simp only [l80_0]
  have hE1H : Ext (fun _ => False) h1 H := ext_pf hE10 hEH (by omega)
  have rlv := hlv.ext hE1H
  by_cases hin : (j : Int) < ((cn o : Nat) : Int)
  · have hj' : j < cn o := by omega
    have hjL : j < (linesI o).length := by omega
    obtain ⟨w, hw, hwl⟩ := rlv.load (P := prog) Xq hjL
    have hwg : (linesI o).getD j [] = Wp (lin o j) := linesI_get o hj'
    rw [hwg] at hw
    have lf := Vb ho hj'
    have l6 : ∀ x ∈ lin o j, x < 6 := fun x hx => by
      have := List.mem_range.1 (lf.pm.mem_iff.1 hx); omega
    have ll : (lin o j).length ≤ 6 := by rw [lf.pm.length_eq, List.length_range]; exact hln.2
    have bc := behind_call (h := H) hw lf.nd l6 ll
    have hnx : ((Yy o).take (j + 1)).map bhF = ((Yy o).take j).map bhF ++ [bhF (lin o j)] := by
      have hj3 : j < (Yy o).length := by rw [Xp]; exact hj'
      rw [List.take_succ, List.getElem?_eq_getElem hj3, Option.toList_some, List.map_append, List.map_singleton, lin, List.getD, List.getElem?_eq_getElem hj3]; rfl
    refine Yc fun N5 hN5 => ?_
    simp (maxSteps := 2000000) only [s80, ↓Za, ↓Zm, ↓Zr, ↓Ze, ↓Zk, ↓Zs, ↓Zf, ↓Zi, ↓Zg, ↓Zc, ↓Zb, ↓vdn, vup, Zl, Zn, Zh, Zj, Zo, List.map_cons, List.map_nil, cond_true, cond_false, aop, Zv, Zq, Zp, ev, sput, Zt, Zy, Ya, unK, Zd, Zw, Nat.reduceBEq, Nat.reduceAdd, Int.reduceBEq, Int.reduceBNe, Int.reduceLT, Zu, Zz, tup, tyf, hin]
    refine hN5 [(1, .pointer (some ⟨h.length, 0, none⟩)), (2, .slice none 0 0), (3, .pointer (some ⟨h1.length, 0, none⟩)), (4, .pointer (some ⟨h1.length + 1, 0, none⟩)), (17, lv), (18, Zx (cn o : Nat)), (19, Zx (j : Nat)), (20, .bool true)] _ _ ?_ (by simp (maxSteps := 2000000) only [↓Za, ↓Zm, ↓Zr, ↓Ze, ↓Zk, ↓Zs, ↓Zf, ↓Zi, ↓Zg, ↓Zc, ↓Zb, ↓vdn, vup, Zl, Zn, Zh, Zj, Zo, List.map_cons, List.map_nil, cond_true, cond_false, aop, Zv, Zq, Zp, ev, sput, Zt, Zy, Ya, unK, Zd, Zw, Nat.reduceBEq, Nat.reduceAdd, Int.reduceBEq, Int.reduceBNe, Int.reduceLT, Zu, Zz, tup, tyf])
    clear hN5
    try clear N5
    refine Yc fun N6 hN6 => ?_
    simp (maxSteps := 2000000) only [s80, ↓Za, ↓Zm, ↓Zr, ↓Ze, ↓Zk, ↓Zs, ↓Zf, ↓Zi, ↓Zg, ↓Zc, ↓Zb, ↓vdn, vup, Zl, Zn, Zh, Zj, Zo, List.map_cons, List.map_nil, cond_true, cond_false, aop, Zv, Zq, Zp, ev, sput, Zt, Zy, Ya, unK, Zd, Zw, Nat.reduceBEq, Nat.reduceAdd, Int.reduceBEq, Int.reduceBNe, Int.reduceLT, Zu, Zz, tup, tyf]
    refine hN6 [(1, .pointer (some ⟨h.length, 0, none⟩)), (2, .slice none 0 0), (3, .pointer (some ⟨h1.length, 0, none⟩)), (4, .pointer (some ⟨h1.length + 1, 0, none⟩)), (17, lv), (18, Zx (cn o : Nat)), (19, Zx (j : Nat))] _ _ ?_ (by simp (maxSteps := 2000000) only [↓Za, ↓Zm, ↓Zr, ↓Ze, ↓Zk, ↓Zs, ↓Zf, ↓Zi, ↓Zg, ↓Zc, ↓Zb, ↓vdn, vup, Zl, Zn, Zh, Zj, Zo, List.map_cons, List.map_nil, cond_true, cond_false, aop, Zv, Zq, Zp, ev, sput, Zt, Zy, Ya, unK, Zd, Zw, Nat.reduceBEq, Nat.reduceAdd, Int.reduceBEq, Int.reduceBNe, Int.reduceLT, Zu, Zz, tup, tyf])
    clear hN6
    try clear N6
    refine Yh fun B hB => ?_
    refine Yk ?_
    refine Yc fun N7 hN7 => ?_
    simp (maxSteps := 2000000) only [s80, ↓Za, ↓Zm, ↓Zr, ↓Ze, ↓Zk, ↓Zs, ↓Zf, ↓Zi, ↓Zg, ↓Zc, ↓Zb, ↓vdn, vup, Zl, Zn, Zh, Zj, Zo, List.map_cons, List.map_nil, cond_true, cond_false, aop, Zv, Zq, Zp, ev, sput, Zt, Zy, Ya, unK, Zd, Zw, Nat.reduceBEq, Nat.reduceAdd, Int.reduceBEq, Int.reduceBNe, Int.reduceLT, Zu, Zz, tup, tyf, rlv.idx el_45 esz_22 hjL, hwl]
    refine hN7 [(1, .pointer (some ⟨h.length, 0, none⟩)), (2, .slice none 0 0), (3, .pointer (some ⟨h1.length, 0, none⟩)), (4, .pointer (some ⟨h1.length + 1, 0, none⟩)), (6, w), (17, lv), (18, Zx (cn o : Nat)), (19, Zx (j : Nat))] _ _ ?_ (by simp (maxSteps := 2000000) only [↓Za, ↓Zm, ↓Zr, ↓Ze, ↓Zk, ↓Zs, ↓Zf, ↓Zi, ↓Zg, ↓Zc, ↓Zb, ↓vdn, vup, Zl, Zn, Zh, Zj, Zo, List.map_cons, List.map_nil, cond_true, cond_false, aop, Zv, Zq, Zp, ev, sput, Zt, Zy, Ya, unK, Zd, Zw, Nat.reduceBEq, Nat.reduceAdd, Int.reduceBEq, Int.reduceBNe, Int.reduceLT, Zu, Zz, tup, tyf])
    clear hN7
    try clear N7
    refine Yl ?_
    simp only [q80_6]
    refine aw_drawR (fun z => z[h1.length + 1]? = some (.cells [sv] 120 false)) [(0, 5), (2, 1), (5, 6)] (by kernel_rfl) (by kernel_rfl) (by kernel_rfl) (by kernel_rfl) d4 ?_
    simp (maxSteps := 2000000) only [s80, ↓Za, ↓Zm, ↓Zr, ↓Ze, ↓Zk, ↓Zs, ↓Zf, ↓Zi, ↓Zg, ↓Zc, ↓Zb, ↓vdn, vup, Zl, Zn, Zh, Zj, Zo, List.map_cons, List.map_nil, cond_true, cond_false, aop, Zv, Zq, Zp, ev, sput, Zt, Zy, Ya, unK, Zd, Zw, Nat.reduceBEq, Nat.reduceAdd, Int.reduceBEq, Int.reduceBNe, Int.reduceLT, Zu, Zz, tup, tyf, Nat.reduceLT, Bool.false_or, Bool.true_or, Xi d4 shp_120, Xf, List.nil_append, List.append_nil, List.toList_toArray, List.cons_append]
    refine ⟨sv, fun hp hhp => by simp only [Xi hhp shp_120], ?_⟩
    refine ⟨_, _, bc, rfl, ?_⟩
    simp (maxSteps := 2000000) only [s80, ↓Za, ↓Zm, ↓Zr, ↓Ze, ↓Zk, ↓Zs, ↓Zf, ↓Zi, ↓Zg, ↓Zc, ↓Zb, ↓vdn, vup, Zl, Zn, Zh, Zj, Zo, List.map_cons, List.map_nil, cond_true, cond_false, aop, Zv, Zq, Zp, ev, sput, Zt, Zy, Ya, unK, Zd, Zw, Nat.reduceBEq, Nat.reduceAdd, Int.reduceBEq, Int.reduceBNe, Int.reduceLT, Zu, Zz, tup, tyf, Nat.reduceLT, Bool.false_or, Bool.true_or, List.map_toArray, lit6 el_120 zero_121 esz_121]
    have hsvn : Yd sv ≠ some (h1.length + 1) := fun hc => by have := hbw _ hc; omega
    refine ⟨Wc d4 _, ?_⟩
    refine Own6.append (f := bhF (lin o j)) (how.ext (Ext.app _ _ _)) app_120_120 (by rw [List.length_map, List.length_take]; omega) (Yv _ _) fun sv' G ho' hE' hb' => ?_
    rw [← hnx] at ho'
    have hE4 : Ext (fun i => Yd sv = some i) H G := ((Ext.app (fun _ => False) H _).mono fun _ h => h.elim).trans hE'
    have d5 : G[h1.length + 1]? = some (.cells [sv] 120 false) := (hE4.2 _ (Yn d4) hsvn).trans d4
    have hbw' : ∀ b, Yd sv' = some b → H0.length ≤ b := fun b hb => by
      rcases hb' with h1 | ⟨b', h1, h2⟩
      · exact hbw b (h1 ▸ hb)
      · rw [h1] at hb; cases hb
        rw [List.length_append] at h2
        have := hEH.1; omega
    refine ⟨d5, ?_⟩
    simp (maxSteps := 2000000) only [s80, ↓Za, ↓Zm, ↓Zr, ↓Ze, ↓Zk, ↓Zs, ↓Zf, ↓Zi, ↓Zg, ↓Zc, ↓Zb, ↓vdn, vup, Zl, Zn, Zh, Zj, Zo, List.map_cons, List.map_nil, cond_true, cond_false, aop, Zv, Zq, Zp, ev, sput, Zt, Zy, Ya, unK, Zd, Zw, Nat.reduceBEq, Nat.reduceAdd, Int.reduceBEq, Int.reduceBNe, Int.reduceLT, Zu, Zz, tup, tyf, Nat.reduceLT, Bool.false_or, Bool.true_or, store1 d5 shp_120 ho'.one]
    refine hB [(1, .pointer (some ⟨h.length, 0, none⟩)), (2, .slice none 0 0), (3, .pointer (some ⟨h1.length, 0, none⟩)), (4, .pointer (some ⟨h1.length + 1, 0, none⟩)), (17, lv), (18, Zx (cn o : Nat)), (19, Zx (j : Nat))] _ _ ?_ (by simp (maxSteps := 2000000) only [↓Za, ↓Zm, ↓Zr, ↓Ze, ↓Zk, ↓Zs, ↓Zf, ↓Zi, ↓Zg, ↓Zc, ↓Zb, ↓vdn, vup, Zl, Zn, Zh, Zj, Zo, List.map_cons, List.map_nil, cond_true, cond_false, aop, Zv, Zq, Zp, ev, sput, Zt, Zy, Ya, unK, Zd, Zw, Nat.reduceBEq, Nat.reduceAdd, Int.reduceBEq, Int.reduceBNe, Int.reduceLT, Zu, Zz, tup, tyf])
    clear hB
    try clear B
    refine Yl ?_
    simp (maxSteps := 2000000) only [s80, ↓Za, ↓Zm, ↓Zr, ↓Ze, ↓Zk, ↓Zs, ↓Zf, ↓Zi, ↓Zg, ↓Zc, ↓Zb, ↓vdn, vup, Zl, Zn, Zh, Zj, Zo, List.map_cons, List.map_nil, cond_true, cond_false, aop, Zv, Zq, Zp, ev, sput, Zt, Zy, Ya, unK, Zd, Zw, Nat.reduceBEq, Nat.reduceAdd, Int.reduceBEq, Int.reduceBNe, Int.reduceLT, Zu, Zz, tup, tyf, add1 (show j < 9223372036854775807 by omega)]
    refine hQ2 _ _ _ ⟨(j + 1, sv', G.set (h1.length + 1) (.cells [sv'] 120 false)), ⟨hj', Xw (Yn d5) _, ho'.same fun b hb => List.getElem?_set_ne (by have := hbw' b hb; omega), ?_, hbw'⟩, by simp only; omega, by simp (maxSteps := 2000000) only [↓Za, ↓Zm, ↓Zr, ↓Ze, ↓Zk, ↓Zs, ↓Zf, ↓Zi, ↓Zg, ↓Zc, ↓Zb, ↓vdn, vup, Zl, Zn, Zh, Zj, Zo, List.map_cons, List.map_nil, cond_true, cond_false, aop, Zv, Zq, Zp, ev, sput, Zt, Zy, Ya, unK, Zd, Zw, Nat.reduceBEq, Nat.reduceAdd, Int.reduceBEq, Int.reduceBNe, Int.reduceLT, Zu, Zz, tup, tyf], rfl⟩
    refine ⟨by simp only [List.length_set]; have := hEH.1; have := hE4.1; omega, fun i hi hn => ?_⟩
    simp only
    rw [List.getElem?_set_ne (by omega), hE4.2 i (by have := hEH.1; omega) fun hc => by have := hbw i hc; omega]
    exact hEH.2 i hi hn
  obtain rfl : j = cn o := by omega
  refine Yc fun N8 hN8 => ?_
  simp (maxSteps := 2000000) only [s80, ↓Za, ↓Zm, ↓Zr, ↓Ze, ↓Zk, ↓Zs, ↓Zf, ↓Zi, ↓Zg, ↓Zc, ↓Zb, ↓vdn, vup, Zl, Zn, Zh, Zj, Zo, List.map_cons, List.map_nil, cond_true, cond_false, aop, Zv, Zq, Zp, ev, sput, Zt, Zy, Ya, unK, Zd, Zw, Nat.reduceBEq, Nat.reduceAdd, Int.reduceBEq, Int.reduceBNe, Int.reduceLT, Zu, Zz, tup, tyf, hin]
  refine hN8 [(1, .pointer (some ⟨h.length, 0, none⟩)), (2, .slice none 0 0), (3, .pointer (some ⟨h1.length, 0, none⟩)), (4, .pointer (some ⟨h1.length + 1, 0, none⟩)), (17, lv), (18, Zx (cn o : Nat)), (19, Zx (cn o : Nat)), (20, .bool false)] _ _ ?_ (by simp (maxSteps := 2000000) only [↓Za, ↓Zm, ↓Zr, ↓Ze, ↓Zk, ↓Zs, ↓Zf, ↓Zi, ↓Zg, ↓Zc, ↓Zb, ↓vdn, vup, Zl, Zn, Zh, Zj, Zo, List.map_cons, List.map_nil, cond_true, cond_false, aop, Zv, Zq, Zp, ev, sput, Zt, Zy, Ya, unK, Zd, Zw, Nat.reduceBEq, Nat.reduceAdd, Int.reduceBEq, Int.reduceBNe, Int.reduceLT, Zu, Zz, tup, tyf])
  clear hN8
  try clear N8
  refine Yc fun N9 hN9 => ?_
  simp (maxSteps := 2000000) only [s80, ↓Za, ↓Zm, ↓Zr, ↓Ze, ↓Zk, ↓Zs, ↓Zf, ↓Zi, ↓Zg, ↓Zc, ↓Zb, ↓vdn, vup, Zl, Zn, Zh, Zj, Zo, List.map_cons, List.map_nil, cond_true, cond_false, aop, Zv, Zq, Zp, ev, sput, Zt, Zy, Ya, unK, Zd, Zw, Nat.reduceBEq, Nat.reduceAdd, Int.reduceBEq, Int.reduceBNe, Int.reduceLT, Zu, Zz, tup, tyf]
  refine hQ2 _ _ _ (hQ _ _ _ ?_)
  simp (maxSteps := 2000000) only [s80, ↓Za, ↓Zm, ↓Zr, ↓Ze, ↓Zk, ↓Zs, ↓Zf, ↓Zi, ↓Zg, ↓Zc, ↓Zb, ↓vdn, vup, Zl, Zn, Zh, Zj, Zo, List.map_cons, List.map_nil, cond_true, cond_false, aop, Zv, Zq, Zp, ev, sput, Zt, Zy, Ya, unK, Zd, Zw, Nat.reduceBEq, Nat.reduceAdd, Int.reduceBEq, Int.reduceBNe, Int.reduceLT, Zu, Zz, tup, tyf, if_true]
  refine hZ [(1, .pointer (some ⟨h.length, 0, none⟩)), (2, .slice none 0 0), (3, .pointer (some ⟨h1.length, 0, none⟩)), (4, .pointer (some ⟨h1.length + 1, 0, none⟩))] _ _ ?_ (by simp (maxSteps := 2000000) only [↓Za, ↓Zm, ↓Zr, ↓Ze, ↓Zk, ↓Zs, ↓Zf, ↓Zi, ↓Zg, ↓Zc, ↓Zb, ↓vdn, vup, Zl, Zn, Zh, Zj, Zo, List.map_cons, List.map_nil, cond_true, cond_false, aop, Zv, Zq, Zp, ev, sput, Zt, Zy, Ya, unK, Zd, Zw, Nat.reduceBEq, Nat.reduceAdd, Int.reduceBEq, Int.reduceBNe, Int.reduceLT, Zu, Zz, tup, tyf])
  clear hZ
  try clear Z
  clear hQ hQ2
  have hallT : (Yy o).take (cn o) = Yy o := List.take_of_length_le (by rw [Xp]; exact Nat.le_refl _)
  rw [hallT] at how
  have hH0l := hEH.1
  have a1 : H[h.length]? = some (.cells (Ww o) 77 false) := (hEH.2 _ (Yn c1) (by omega)).trans c1
  have a3 : H[h1.length]? = some (.cells [lv] 45 false) := (hEH.2 _ (Yn c3) (by omega)).trans c3
  obtain ⟨gf, hgf⟩ : ∃ z : Value, z = .func (.func 106) #[] #[.pointer (some ⟨h.length, 0, none⟩), .pointer (some ⟨h1.length, 0, none⟩), .pointer (some ⟨h1.length + 1, 0, none⟩), .pointer (some ⟨H.length, 0, none⟩), .pointer (some ⟨H.length + 1, 0, none⟩)] := ⟨_, rfl⟩
  obtain ⟨X, hX⟩ : ∃ X : F6 → Yb, X = fun f => H ++ [Blk.cells [.slice none 0 0] 22 false] ++ [Blk.cells [gf] 123 false] ++ [Blk.cells (sixC f) 121 false] := ⟨_, rfl⟩
  have x7 : ∀ f, (X f)[H.length]? = some (.cells [.slice none 0 0] 22 false) := fun f => by rw [hX]; simp
  have x8 : ∀ f, (X f)[H.length + 1]? = some (.cells [gf] 123 false) := fun f => by rw [hX]; simp
  have x9 : ∀ f, (X f)[H.length + 2]? = some (.cells (sixC f) 121 false) := fun f => by rw [hX]; simp
  have xE : ∀ f, Ext (fun _ => False) H (X f) := fun f => by rw [hX]; simp only [List.append_assoc]; exact Ext.app _ _ _
  have xl : ∀ f, (X f).length = H.length + 3 := fun f => by rw [hX]; simp
  have xset : ∀ f g, (X f).set (H.length + 2) (.cells (sixC g) 121 false) = X g := fun f g => by
    rw [hX]; simp only [List.append_assoc]
    rw [List.set_append_right _ _ (by omega), show H.length + 2 - H.length = 2 by omega]; rfl
  have x1 : ∀ f, (X f)[h.length]? = some (.cells (Ww o) 77 false) := fun f => ((xE f).2 _ (Yn a1) id).trans a1
  refine Yc fun N10 hN10 => ?_
  simp (maxSteps := 2000000) only [s80, ↓Za, ↓Zm, ↓Zr, ↓Ze, ↓Zk, ↓Zs, ↓Zf, ↓Zi, ↓Zg, ↓Zc, ↓Zb, ↓vdn, vup, Zl, Zn, Zh, Zj, Zo, List.map_cons, List.map_nil, cond_true, cond_false, aop, Zv, Zq, Zp, ev, sput, Zt, Zy, Ya, unK, Zd, Zw, Nat.reduceBEq, Nat.reduceAdd, Int.reduceBEq, Int.reduceBNe, Int.reduceLT, Zu, Zz, tup, tyf, We, Xg, zero_22]
  refine hN10 [(1, .pointer (some ⟨h.length, 0, none⟩)), (2, .slice none 0 0), (3, .pointer (some ⟨h1.length, 0, none⟩)), (4, .pointer (some ⟨h1.length + 1, 0, none⟩)), (7, .pointer (some ⟨H.length, 0, none⟩))] _ _ ?_ (by simp (maxSteps := 2000000) only [↓Za, ↓Zm, ↓Zr, ↓Ze, ↓Zk, ↓Zs, ↓Zf, ↓Zi, ↓Zg, ↓Zc, ↓Zb, ↓vdn, vup, Zl, Zn, Zh, Zj, Zo, List.map_cons, List.map_nil, cond_true, cond_false, aop, Zv, Zq, Zp, ev, sput, Zt, Zy, Ya, unK, Zd, Zw, Nat.reduceBEq, Nat.reduceAdd, Int.reduceBEq, Int.reduceBNe, Int.reduceLT, Zu, Zz, tup, tyf])
  clear hN10
  try clear N10
  refine Yc fun N11 hN11 => ?_
  simp (maxSteps := 2000000) only [s80, ↓Za, ↓Zm, ↓Zr, ↓Ze, ↓Zk, ↓Zs, ↓Zf, ↓Zi, ↓Zg, ↓Zc, ↓Zb, ↓vdn, vup, Zl, Zn, Zh, Zj, Zo, List.map_cons, List.map_nil, cond_true, cond_false, aop, Zv, Zq, Zp, ev, sput, Zt, Zy, Ya, unK, Zd, Zw, Nat.reduceBEq, Nat.reduceAdd, Int.reduceBEq, Int.reduceBNe, Int.reduceLT, Zu, Zz, tup, tyf, We, Xg, zero_123, List.length_append, List.length_singleton]
  refine hN11 [(1, .pointer (some ⟨h.length, 0, none⟩)), (2, .slice none 0 0), (3, .pointer (some ⟨h1.length, 0, none⟩)), (4, .pointer (some ⟨h1.length + 1, 0, none⟩)), (7, .pointer (some ⟨H.length, 0, none⟩)), (8, .pointer (some ⟨H.length + 1, 0, none⟩))] _ _ ?_ (by simp (maxSteps := 2000000) only [↓Za, ↓Zm, ↓Zr, ↓Ze, ↓Zk, ↓Zs, ↓Zf, ↓Zi, ↓Zg, ↓Zc, ↓Zb, ↓vdn, vup, Zl, Zn, Zh, Zj, Zo, List.map_cons, List.map_nil, cond_true, cond_false, aop, Zv, Zq, Zp, ev, sput, Zt, Zy, Ya, unK, Zd, Zw, Nat.reduceBEq, Nat.reduceAdd, Int.reduceBEq, Int.reduceBNe, Int.reduceLT, Zu, Zz, tup, tyf])
  clear hN11
  try clear N11
  have st8 : ∀ {K : Yb → Prop}, Wa prog (H ++ [Blk.cells [.slice none 0 0] 22 false] ++ [Blk.cells [.nilFunc] 123 false]) 123 (.pointer (some ⟨H.length + 1, 0, none⟩)) gf K = K (H ++ [Blk.cells [.slice none 0 0] 22 false] ++ [Blk.cells [gf] 123 false]) := fun {K} => by
    rw [store1 (v := .nilFunc) (e := 123) (by simp) shp_123 (by rw [hgf]; rfl)]
    have := setEnd (H ++ [Blk.cells [.slice none 0 0] 22 false]) (Blk.cells [.nilFunc] 123 false) (Blk.cells [gf] 123 false)
    rw [List.length_append, List.length_singleton] at this
    rw [this]
  refine Yc fun N12 hN12 => ?_
  simp (maxSteps := 2000000) only [s80, ↓Za, ↓Zm, ↓Zr, ↓Ze, ↓Zk, ↓Zs, ↓Zf, ↓Zi, ↓Zg, ↓Zc, ↓Zb, ↓vdn, vup, Zl, Zn, Zh, Zj, Zo, List.map_cons, List.map_nil, cond_true, cond_false, aop, Zv, Zq, Zp, ev, sput, Zt, Zy, Ya, unK, Zd, Zw, Nat.reduceBEq, Nat.reduceAdd, Int.reduceBEq, Int.reduceBNe, Int.reduceLT, Zu, Zz, tup, tyf, List.map_toArray]
  rw [← hgf, st8]
  refine hN12 [(1, .pointer (some ⟨h.length, 0, none⟩)), (2, .slice none 0 0), (3, .pointer (some ⟨h1.length, 0, none⟩)), (4, .pointer (some ⟨h1.length + 1, 0, none⟩)), (7, .pointer (some ⟨H.length, 0, none⟩)), (8, .pointer (some ⟨H.length + 1, 0, none⟩))] _ _ ?_ (by simp (maxSteps := 2000000) only [↓Za, ↓Zm, ↓Zr, ↓Ze, ↓Zk, ↓Zs, ↓Zf, ↓Zi, ↓Zg, ↓Zc, ↓Zb, ↓vdn, vup, Zl, Zn, Zh, Zj, Zo, List.map_cons, List.map_nil, cond_true, cond_false, aop, Zv, Zq, Zp, ev, sput, Zt, Zy, Ya, unK, Zd, Zw, Nat.reduceBEq, Nat.reduceAdd, Int.reduceBEq, Int.reduceBNe, Int.reduceLT, Zu, Zz, tup, tyf])
  clear hN12
  try clear N12
  refine Yc fun N13 hN13 => ?_
  simp (maxSteps := 2000000) only [s80, ↓Za, ↓Zm, ↓Zr, ↓Ze, ↓Zk, ↓Zs, ↓Zf, ↓Zi, ↓Zg, ↓Zc, ↓Zb, ↓vdn, vup, Zl, Zn, Zh, Zj, Zo, List.map_cons, List.map_nil, cond_true, cond_false, aop, Zv, Zq, Zp, ev, sput, Zt, Zy, Ya, unK, Zd, Zw, Nat.reduceBEq, Nat.reduceAdd, Int.reduceBEq, Int.reduceBNe, Int.reduceLT, Zu, Zz, tup, tyf, We, Xg, zero_121, List.length_append, List.length_singleton, Nat.add_assoc, Nat.reduceAdd]
  have hX0 : H ++ [Blk.cells [.slice none 0 0] 22 false] ++ [Blk.cells [gf] 123 false] ++ [Blk.cells [.int .i64 0, .int .i64 0, .int .i64 0, .int .i64 0, .int .i64 0, .int .i64 0] 121 false] = X (fun k => if k < 0 then 2 ^ o.length - 1 else 0) := by rw [hX]; rfl
  rw [hX0]
  refine hN13 [(1, .pointer (some ⟨h.length, 0, none⟩)), (2, .slice none 0 0), (3, .pointer (some ⟨h1.length, 0, none⟩)), (4, .pointer (some ⟨h1.length + 1, 0, none⟩)), (7, .pointer (some ⟨H.length, 0, none⟩)), (8, .pointer (some ⟨H.length + 1, 0, none⟩)), (9, .pointer (some ⟨H.length + 2, 0, none⟩))] _ _ ?_ (by simp (maxSteps := 2000000) only [↓Za, ↓Zm, ↓Zr, ↓Ze, ↓Zk, ↓Zs, ↓Zf, ↓Zi, ↓Zg, ↓Zc, ↓Zb, ↓vdn, vup, Zl, Zn, Zh, Zj, Zo, List.map_cons, List.map_nil, cond_true, cond_false, aop, Zv, Zq, Zp, ev, sput, Zt, Zy, Ya, unK, Zd, Zw, Nat.reduceBEq, Nat.reduceAdd, Int.reduceBEq, Int.reduceBNe, Int.reduceLT, Zu, Zz, tup, tyf])
  clear hN13
  try clear N13
  have f4 : ∀ {K : Value → Prop}, Xh prog 77 (.pointer (some ⟨h.length, 0, none⟩)) 0 K = K (.pointer (some ⟨h.length, 0, none⟩)) := fun {K} => by
    simp [Xh, fld_77_0, Xs]
  refine Yh fun Z hZ => ?_
  refine Yc fun N14 hN14 => ?_
  simp (maxSteps := 2000000) only [s80, ↓Za, ↓Zm, ↓Zr, ↓Ze, ↓Zk, ↓Zs, ↓Zf, ↓Zi, ↓Zg, ↓Zc, ↓Zb, ↓vdn, vup, Zl, Zn, Zh, Zj, Zo, List.map_cons, List.map_nil, cond_true, cond_false, aop, Zv, Zq, Zp, ev, sput, Zt, Zy, Ya, unK, Zd, Zw, Nat.reduceBEq, Nat.reduceAdd, Int.reduceBEq, Int.reduceBNe, Int.reduceLT, Zu, Zz, tup, tyf, f4, loadN (x1 (fun k => if k < 0 then 2 ^ o.length - 1 else 0)) Xb]
  refine hN14 [(1, .pointer (some ⟨h.length, 0, none⟩)), (2, .slice none 0 0), (3, .pointer (some ⟨h1.length, 0, none⟩)), (4, .pointer (some ⟨h1.length + 1, 0, none⟩)), (7, .pointer (some ⟨H.length, 0, none⟩)), (8, .pointer (some ⟨H.length + 1, 0, none⟩)), (9, .pointer (some ⟨H.length + 2, 0, none⟩)), (31, Zx o.length), (32, .int .i64 0)] _ _ ?_ (by simp (maxSteps := 2000000) only [↓Za, ↓Zm, ↓Zr, ↓Ze, ↓Zk, ↓Zs, ↓Zf, ↓Zi, ↓Zg, ↓Zc, ↓Zb, ↓vdn, vup, Zl, Zn, Zh, Zj, Zo, List.map_cons, List.map_nil, cond_true, cond_false, aop, Zv, Zq, Zp, ev, sput, Zt, Zy, Ya, unK, Zd, Zw, Nat.reduceBEq, Nat.reduceAdd, Int.reduceBEq, Int.reduceBNe, Int.reduceLT, Zu, Zz, tup, tyf])
  clear hN14
  try clear N14
  refine Yk ?_
  refine Yf fun Q hQ => ?_
  refine Xt (γ := Nat) (fun i => i ≤ o.length) (fun i => ([(1, .pointer (some ⟨h.length, 0, none⟩)), (2, .slice none 0 0), (3, .pointer (some ⟨h1.length, 0, none⟩)), (4, .pointer (some ⟨h1.length + 1, 0, none⟩)), (7, .pointer (some ⟨H.length, 0, none⟩)), (8, .pointer (some ⟨H.length + 1, 0, none⟩)), (9, .pointer (some ⟨H.length + 2, 0, none⟩)), (31, Zx o.length), (32, Zx (i : Nat))], X fun k => if k < i then 2 ^ o.length - 1 else 0)) (fun i => o.length - i) 0 (Nat.zero_le _) (by simp (maxSteps := 2000000) only [↓Za, ↓Zm, ↓Zr, ↓Ze, ↓Zk, ↓Zs, ↓Zf, ↓Zi, ↓Zg, ↓Zc, ↓Zb, ↓vdn, vup, Zl, Zn, Zh, Zj, Zo, List.map_cons, List.map_nil, cond_true, cond_false, aop, Zv, Zq, Zp, ev, sput, Zt, Zy, Ya, unK, Zd, Zw, Nat.reduceBEq, Nat.reduceAdd, Int.reduceBEq, Int.reduceBNe, Int.reduceLT, Zu, Zz, tup, tyf, Int.natCast_zero]) rfl ?_
  rintro i hi
  obtain ⟨fi, hfi⟩ : ∃ f : F6, f = fun k => if k < i then 2 ^ o.length - 1 else 0 := ⟨_, rfl⟩
  have hup : upd6 fi i (2 ^ o.length - 1) = fun k => if k < i + 1 then 2 ^ o.length - 1 else 0 := by
    funext k
    rw [hfi]
    simp only [upd6]
    by_cases h1 : k = i
    · rw [if_pos h1, if_pos (by omega)]
    · rw [if_neg h1]
      by_cases h2 : k < i
      · rw [if_pos h2, if_pos (by omega)]
      · rw [if_neg h2, if_neg (by omega)]
  simp only [← hfi]
  refine Yf fun Q2 hQ2 => ?_
  simp only [l80_1]
  by_cases hiin : (i : Int) < o.length
  · have hi' : i < o.length := by omega
    have hi6 : i < 6 := by omega
    refine Yc fun N15 hN15 => ?_
    simp (maxSteps := 2000000) only [s80, ↓Za, ↓Zm, ↓Zr, ↓Ze, ↓Zk, ↓Zs, ↓Zf, ↓Zi, ↓Zg, ↓Zc, ↓Zb, ↓vdn, vup, Zl, Zn, Zh, Zj, Zo, List.map_cons, List.map_nil, cond_true, cond_false, aop, Zv, Zq, Zp, ev, sput, Zt, Zy, Ya, unK, Zd, Zw, Nat.reduceBEq, Nat.reduceAdd, Int.reduceBEq, Int.reduceBNe, Int.reduceLT, Zu, Zz, tup, tyf, hiin]
    refine hN15 [(1, .pointer (some ⟨h.length, 0, none⟩)), (2, .slice none 0 0), (3, .pointer (some ⟨h1.length, 0, none⟩)), (4, .pointer (some ⟨h1.length + 1, 0, none⟩)), (7, .pointer (some ⟨H.length, 0, none⟩)), (8, .pointer (some ⟨H.length + 1, 0, none⟩)), (9, .pointer (some ⟨H.length + 2, 0, none⟩)), (31, Zx o.length), (32, Zx (i : Nat)), (33, .bool true)] _ _ ?_ (by simp (maxSteps := 2000000) only [↓Za, ↓Zm, ↓Zr, ↓Ze, ↓Zk, ↓Zs, ↓Zf, ↓Zi, ↓Zg, ↓Zc, ↓Zb, ↓vdn, vup, Zl, Zn, Zh, Zj, Zo, List.map_cons, List.map_nil, cond_true, cond_false, aop, Zv, Zq, Zp, ev, sput, Zt, Zy, Ya, unK, Zd, Zw, Nat.reduceBEq, Nat.reduceAdd, Int.reduceBEq, Int.reduceBNe, Int.reduceLT, Zu, Zz, tup, tyf])
    clear hN15
    try clear N15
    refine Yc fun N16 hN16 => ?_
    simp (maxSteps := 2000000) only [s80, ↓Za, ↓Zm, ↓Zr, ↓Ze, ↓Zk, ↓Zs, ↓Zf, ↓Zi, ↓Zg, ↓Zc, ↓Zb, ↓vdn, vup, Zl, Zn, Zh, Zj, Zo, List.map_cons, List.map_nil, cond_true, cond_false, aop, Zv, Zq, Zp, ev, sput, Zt, Zy, Ya, unK, Zd, Zw, Nat.reduceBEq, Nat.reduceAdd, Int.reduceBEq, Int.reduceBNe, Int.reduceLT, Zu, Zz, tup, tyf]
    refine hN16 [(1, .pointer (some ⟨h.length, 0, none⟩)), (2, .slice none 0 0), (3, .pointer (some ⟨h1.length, 0, none⟩)), (4, .pointer (some ⟨h1.length + 1, 0, none⟩)), (7, .pointer (some ⟨H.length, 0, none⟩)), (8, .pointer (some ⟨H.length + 1, 0, none⟩)), (9, .pointer (some ⟨H.length + 2, 0, none⟩)), (31, Zx o.length), (32, Zx (i : Nat))] _ _ ?_ (by simp (maxSteps := 2000000) only [↓Za, ↓Zm, ↓Zr, ↓Ze, ↓Zk, ↓Zs, ↓Zf, ↓Zi, ↓Zg, ↓Zc, ↓Zb, ↓vdn, vup, Zl, Zn, Zh, Zj, Zo, List.map_cons, List.map_nil, cond_true, cond_false, aop, Zv, Zq, Zp, ev, sput, Zt, Zy, Ya, unK, Zd, Zw, Nat.reduceBEq, Nat.reduceAdd, Int.reduceBEq, Int.reduceBNe, Int.reduceLT, Zu, Zz, tup, tyf])
    clear hN16
    try clear N16
    refine Yh fun B hB => ?_
    refine Yk ?_
    refine Yc fun N17 hN17 => ?_
    simp (maxSteps := 2000000) only [s80, ↓Za, ↓Zm, ↓Zr, ↓Ze, ↓Zk, ↓Zs, ↓Zf, ↓Zi, ↓Zg, ↓Zc, ↓Zb, ↓vdn, vup, Zl, Zn, Zh, Zj, Zo, List.map_cons, List.map_nil, cond_true, cond_false, aop, Zv, Zq, Zp, ev, sput, Zt, Zy, Ya, unK, Zd, Zw, Nat.reduceBEq, Nat.reduceAdd, Int.reduceBEq, Int.reduceBNe, Int.reduceLT, Zu, Zz, tup, tyf]
    refine hN17 [(1, .pointer (some ⟨h.length, 0, none⟩)), (2, .slice none 0 0), (3, .pointer (some ⟨h1.length, 0, none⟩)), (4, .pointer (some ⟨h1.length + 1, 0, none⟩)), (7, .pointer (some ⟨H.length, 0, none⟩)), (8, .pointer (some ⟨H.length + 1, 0, none⟩)), (9, .pointer (some ⟨H.length + 2, 0, none⟩)), (10, Zx (i : Nat)), (31, Zx o.length), (32, Zx (i : Nat))] _ _ ?_ (by simp (maxSteps := 2000000) only [↓Za, ↓Zm, ↓Zr, ↓Ze, ↓Zk, ↓Zs, ↓Zf, ↓Zi, ↓Zg, ↓Zc, ↓Zb, ↓vdn, vup, Zl, Zn, Zh, Zj, Zo, List.map_cons, List.map_nil, cond_true, cond_false, aop, Zv, Zq, Zp, ev, sput, Zt, Zy, Ya, unK, Zd, Zw, Nat.reduceBEq, Nat.reduceAdd, Int.reduceBEq, Int.reduceBNe, Int.reduceLT, Zu, Zz, tup, tyf])
    clear hN17
    try clear N17
    refine Yl ?_
    simp (maxSteps := 2000000) only [s80, ↓Za, ↓Zm, ↓Zr, ↓Ze, ↓Zk, ↓Zs, ↓Zf, ↓Zi, ↓Zg, ↓Zc, ↓Zb, ↓vdn, vup, Zl, Zn, Zh, Zj, Zo, List.map_cons, List.map_nil, cond_true, cond_false, aop, Zv, Zq, Zp, ev, sput, Zt, Zy, Ya, unK, Zd, Zw, Nat.reduceBEq, Nat.reduceAdd, Int.reduceBEq, Int.reduceBNe, Int.reduceLT, Zu, Zz, tup, tyf, Xf, List.nil_append, List.append_nil, List.toList_toArray, List.cons_append, loadO (x1 fi) Xr hln.2]
    refine (all_call hln.2).mono ?_
    rintro _ _ ⟨rfl, rfl⟩
    simp (maxSteps := 2000000) only [s80, ↓Za, ↓Zm, ↓Zr, ↓Ze, ↓Zk, ↓Zs, ↓Zf, ↓Zi, ↓Zg, ↓Zc, ↓Zb, ↓vdn, vup, Zl, Zn, Zh, Zj, Zo, List.map_cons, List.map_nil, cond_true, cond_false, aop, Zv, Zq, Zp, ev, sput, Zt, Zy, Ya, unK, Zd, Zw, Nat.reduceBEq, Nat.reduceAdd, Int.reduceBEq, Int.reduceBNe, Int.reduceLT, Zu, Zz, tup, tyf, six_idx und_121 Xs hi6, Nat.zero_add, six_store1 (x9 fi) Xb hi6, hup, xset]
    refine hB [(1, .pointer (some ⟨h.length, 0, none⟩)), (2, .slice none 0 0), (3, .pointer (some ⟨h1.length, 0, none⟩)), (4, .pointer (some ⟨h1.length + 1, 0, none⟩)), (7, .pointer (some ⟨H.length, 0, none⟩)), (8, .pointer (some ⟨H.length + 1, 0, none⟩)), (9, .pointer (some ⟨H.length + 2, 0, none⟩)), (31, Zx o.length), (32, Zx (i : Nat))] _ _ ?_ (by simp (maxSteps := 2000000) only [↓Za, ↓Zm, ↓Zr, ↓Ze, ↓Zk, ↓Zs, ↓Zf, ↓Zi, ↓Zg, ↓Zc, ↓Zb, ↓vdn, vup, Zl, Zn, Zh, Zj, Zo, List.map_cons, List.map_nil, cond_true, cond_false, aop, Zv, Zq, Zp, ev, sput, Zt, Zy, Ya, unK, Zd, Zw, Nat.reduceBEq, Nat.reduceAdd, Int.reduceBEq, Int.reduceBNe, Int.reduceLT, Zu, Zz, tup, tyf])
    clear hB
    try clear B
    refine Yl ?_
    simp (maxSteps := 2000000) only [s80, ↓Za, ↓Zm, ↓Zr, ↓Ze, ↓Zk, ↓Zs, ↓Zf, ↓Zi, ↓Zg, ↓Zc, ↓Zb, ↓vdn, vup, Zl, Zn, Zh, Zj, Zo, List.map_cons, List.map_nil, cond_true, cond_false, aop, Zv, Zq, Zp, ev, sput, Zt, Zy, Ya, unK, Zd, Zw, Nat.reduceBEq, Nat.reduceAdd, Int.reduceBEq, Int.reduceBNe, Int.reduceLT, Zu, Zz, tup, tyf, add1 (show i < 9223372036854775807 by omega)]
    exact hQ2 _ _ _ ⟨i + 1, hi', by omega, by simp (maxSteps := 2000000) only [↓Za, ↓Zm, ↓Zr, ↓Ze, ↓Zk, ↓Zs, ↓Zf, ↓Zi, ↓Zg, ↓Zc, ↓Zb, ↓vdn, vup, Zl, Zn, Zh, Zj, Zo, List.map_cons, List.map_nil, cond_true, cond_false, aop, Zv, Zq, Zp, ev, sput, Zt, Zy, Ya, unK, Zd, Zw, Nat.reduceBEq, Nat.reduceAdd, Int.reduceBEq, Int.reduceBNe, Int.reduceLT, Zu, Zz, tup, tyf], rfl⟩
  obtain rfl : i = o.length := by omega
  refine Yc fun N18 hN18 => ?_
  simp (maxSteps := 2000000) only [s80, ↓Za, ↓Zm, ↓Zr, ↓Ze, ↓Zk, ↓Zs, ↓Zf, ↓Zi, ↓Zg, ↓Zc, ↓Zb, ↓vdn, vup, Zl, Zn, Zh, Zj, Zo, List.map_cons, List.map_nil, cond_true, cond_false, aop, Zv, Zq, Zp, ev, sput, Zt, Zy, Ya, unK, Zd, Zw, Nat.reduceBEq, Nat.reduceAdd, Int.reduceBEq, Int.reduceBNe, Int.reduceLT, Zu, Zz, tup, tyf, hiin]
  refine hN18 [(1, .pointer (some ⟨h.length, 0, none⟩)), (2, .slice none 0 0), (3, .pointer (some ⟨h1.length, 0, none⟩)), (4, .pointer (some ⟨h1.length + 1, 0, none⟩)), (7, .pointer (some ⟨H.length, 0, none⟩)), (8, .pointer (some ⟨H.length + 1, 0, none⟩)), (9, .pointer (some ⟨H.length + 2, 0, none⟩)), (31, Zx o.length), (32, Zx o.length), (33, .bool false)] _ _ ?_ (by simp (maxSteps := 2000000) only [↓Za, ↓Zm, ↓Zr, ↓Ze, ↓Zk, ↓Zs, ↓Zf, ↓Zi, ↓Zg, ↓Zc, ↓Zb, ↓vdn, vup, Zl, Zn, Zh, Zj, Zo, List.map_cons, List.map_nil, cond_true, cond_false, aop, Zv, Zq, Zp, ev, sput, Zt, Zy, Ya, unK, Zd, Zw, Nat.reduceBEq, Nat.reduceAdd, Int.reduceBEq, Int.reduceBNe, Int.reduceLT, Zu, Zz, tup, tyf])
  clear hN18
  try clear N18
  refine Yc fun N19 hN19 => ?_
  simp (maxSteps := 2000000) only [s80, ↓Za, ↓Zm, ↓Zr, ↓Ze, ↓Zk, ↓Zs, ↓Zf, ↓Zi, ↓Zg, ↓Zc, ↓Zb, ↓vdn, vup, Zl, Zn, Zh, Zj, Zo, List.map_cons, List.map_nil, cond_true, cond_false, aop, Zv, Zq, Zp, ev, sput, Zt, Zy, Ya, unK, Zd, Zw, Nat.reduceBEq, Nat.reduceAdd, Int.reduceBEq, Int.reduceBNe, Int.reduceLT, Zu, Zz, tup, tyf]
  refine hQ2 _ _ _ (hQ _ _ _ ?_)
  simp (maxSteps := 2000000) only [s80, ↓Za, ↓Zm, ↓Zr, ↓Ze, ↓Zk, ↓Zs, ↓Zf, ↓Zi, ↓Zg, ↓Zc, ↓Zb, ↓vdn, vup, Zl, Zn, Zh, Zj, Zo, List.map_cons, List.map_nil, cond_true, cond_false, aop, Zv, Zq, Zp, ev, sput, Zt, Zy, Ya, unK, Zd, Zw, Nat.reduceBEq, Nat.reduceAdd, Int.reduceBEq, Int.reduceBNe, Int.reduceLT, Zu, Zz, tup, tyf, if_true]
  have hB : X fi = X (cmF o []) := by
    rw [hX]
    simp only
    rw [sixC_congr (f := fi) (g := cmF o []) fun k hk => by rw [hfi, cmF]; rfl]
  rw [hB]
  refine hZ [(1, .pointer (some ⟨h.length, 0, none⟩)), (2, .slice none 0 0), (3, .pointer (some ⟨h1.length, 0, none⟩)), (4, .pointer (some ⟨h1.length + 1, 0, none⟩)), (7, .pointer (some ⟨H.length, 0, none⟩)), (8, .pointer (some ⟨H.length + 1, 0, none⟩)), (9, .pointer (some ⟨H.length + 2, 0, none⟩))] _ _ ?_ (by simp (maxSteps := 2000000) only [↓Za, ↓Zm, ↓Zr, ↓Ze, ↓Zk, ↓Zs, ↓Zf, ↓Zi, ↓Zg, ↓Zc, ↓Zb, ↓vdn, vup, Zl, Zn, Zh, Zj, Zo, List.map_cons, List.map_nil, cond_true, cond_false, aop, Zv, Zq, Zp, ev, sput, Zt, Zy, Ya, unK, Zd, Zw, Nat.reduceBEq, Nat.reduceAdd, Int.reduceBEq, Int.reduceBNe, Int.reduceLT, Zu, Zz, tup, tyf])
  clear hZ
  try clear Z
  clear hQ hQ2 hB hup
  obtain ⟨B0, hB0⟩ : ∃ z, z = X (cmF o []) := ⟨_, rfl⟩
  rw [← hB0]
  have lB0 : B0.length = H.length + 3 := by rw [hB0]; exact xl _
  have y9 : B0[H.length + 2]? = some (.cells (sixC (cmF o [])) 121 false) := by rw [hB0]; exact x9 _
  have y7 : B0[H.length]? = some (.cells [.slice none 0 0] 22 false) := by rw [hB0]; exact x7 _
  have y8 : B0[H.length + 1]? = some (.cells [gf] 123 false) := by rw [hB0]; exact x8 _
  have yE : Ext (fun _ => False) H B0 := by rw [hB0]; exact xE _
  have re : RE o B0 h.length h1.length (h1.length + 1) H.length (H.length + 1) lv sv :=
    { ob := (yE.2 _ (Yn a1) id).trans a1
      ab_ := (yE.2 _ (Yn a3) id).trans a3
      sb := (yE.2 _ (Yn d4) id).trans d4
      gb := by rw [y8, hgf]
      fo := by omega
      fa := by omega
      fs := by omega
      fg := by omega
      f := by omega
      al := fun K => by rw [hlv.len, hLl]
      sl := how.ext yE
      sf := fun hc => by have := how.lt hc; omega }
  clear hX0 x7 x8 x9 xE xset x1
  refine Yh fun Z hZ => ?_
  refine Yc fun N20 hN20 => ?_
  simp (maxSteps := 2000000) only [s80, ↓Za, ↓Zm, ↓Zr, ↓Ze, ↓Zk, ↓Zs, ↓Zf, ↓Zi, ↓Zg, ↓Zc, ↓Zb, ↓vdn, vup, Zl, Zn, Zh, Zj, Zo, List.map_cons, List.map_nil, cond_true, cond_false, aop, Zv, Zq, Zp, ev, sput, Zt, Zy, Ya, unK, Zd, Zw, Nat.reduceBEq, Nat.reduceAdd, Int.reduceBEq, Int.reduceBNe, Int.reduceLT, Zu, Zz, tup, tyf]
  refine hN20 [(1, .pointer (some ⟨h.length, 0, none⟩)), (2, .slice none 0 0), (3, .pointer (some ⟨h1.length, 0, none⟩)), (4, .pointer (some ⟨h1.length + 1, 0, none⟩)), (7, .pointer (some ⟨H.length, 0, none⟩)), (8, .pointer (some ⟨H.length + 1, 0, none⟩)), (9, .pointer (some ⟨H.length + 2, 0, none⟩)), (11, .int .i64 1)] _ _ ?_ (by simp (maxSteps := 2000000) only [↓Za, ↓Zm, ↓Zr, ↓Ze, ↓Zk, ↓Zs, ↓Zf, ↓Zi, ↓Zg, ↓Zc, ↓Zb, ↓vdn, vup, Zl, Zn, Zh, Zj, Zo, List.map_cons, List.map_nil, cond_true, cond_false, aop, Zv, Zq, Zp, ev, sput, Zt, Zy, Ya, unK, Zd, Zw, Nat.reduceBEq, Nat.reduceAdd, Int.reduceBEq, Int.reduceBNe, Int.reduceLT, Zu, Zz, tup, tyf])
  clear hN20
  try clear N20
  refine Yk ?_
  refine Yf fun Q hQ => ?_
  refine Xt (γ := Nat × Yb) (fun g => g.1 < 3 ∧ Yr (sepB o) (cn o) 1 g.1 = none ∧ KH B0 H.length g.2 ∧ g.2[H.length]? = some (.cells [.slice none 0 0] 22 false))
    (fun g => ([(1, .pointer (some ⟨h.length, 0, none⟩)), (2, .slice none 0 0), (3, .pointer (some ⟨h1.length, 0, none⟩)), (4, .pointer (some ⟨h1.length + 1, 0, none⟩)), (7, .pointer (some ⟨H.length, 0, none⟩)), (8, .pointer (some ⟨H.length + 1, 0, none⟩)), (9, .pointer (some ⟨H.length + 2, 0, none⟩)), (11, Zx (g.1 + 1 : Nat))], g.2)) (fun g => 3 - g.1) (0, B0) ⟨show 0 < 3 by decide, rfl, Ext.refl _ _, y7⟩ (by simp (maxSteps := 2000000) only [↓Za, ↓Zm, ↓Zr, ↓Ze, ↓Zk, ↓Zs, ↓Zf, ↓Zi, ↓Zg, ↓Zc, ↓Zb, ↓vdn, vup, Zl, Zn, Zh, Zj, Zo, List.map_cons, List.map_nil, cond_true, cond_false, aop, Zv, Zq, Zp, ev, sput, Zt, Zy, Ya, unK, Zd, Zw, Nat.reduceBEq, Nat.reduceAdd, Int.reduceBEq, Int.reduceBNe, Int.reduceLT, Zu, Zz, tup, tyf, Nat.zero_add, Int.natCast_one]) rfl ?_
  rintro ⟨s, G⟩ ⟨hs, hshort, kG, g7⟩
  simp only at hs hshort kG g7
  refine Yf fun Q2 hQ2 => ?_
  simp only [l80_2]
  have gc := real_grow ho re (s + 1) 0 [] G (.slice none 0 0) (fun h => by omega) (by simp; omega) (fun k hk => by cases hk) (Nat.zero_le _) kG ⟨g7, .inl ⟨rfl, rfl⟩, fun b hb => by cases hb⟩
  have k8 := kG.at_ re.gb re.fg
  have k9 := kG.at_ y9 (by omega)
  refine Yh fun C hC => ?_
  refine Yc fun N21 hN21 => ?_
  simp (maxSteps := 2000000) only [s80, ↓Za, ↓Zm, ↓Zr, ↓Ze, ↓Zk, ↓Zs, ↓Zf, ↓Zi, ↓Zg, ↓Zc, ↓Zb, ↓vdn, vup, Zl, Zn, Zh, Zj, Zo, List.map_cons, List.map_nil, cond_true, cond_false, aop, Zv, Zq, Zp, ev, sput, Zt, Zy, Ya, unK, Zd, Zw, Nat.reduceBEq, Nat.reduceAdd, Int.reduceBEq, Int.reduceBNe, Int.reduceLT, Zu, Zz, tup, tyf, Xi k8 shp_123, six_load k9 sh, Xf, List.nil_append, List.append_nil, List.toList_toArray, List.cons_append]
  refine gc.mono ?_
  rintro r G2 ⟨e2, fv, gb, hres⟩
  have k2 : KH B0 H.length G2 := kG.go (fv := .slice none 0 0) (fun b hb => by cases hb) e2
  cases hsr : srch (sepB o) (cn o) 1 (s + 1) 0 [] with
  | none =>
    rw [hsr] at hres
    obtain ⟨rfl, f2⟩ := hres
    have hnext : Yr (sepB o) (cn o) 1 (s + 1) = none := by rw [Yr, hshort, hsr]; rfl
    have hs2 : s + 1 < 3 := by
      rcases Nat.lt_or_ge (s + 1) 3 with h | h
      · exact h
      · have : s + 1 = 3 := by omega
        rw [this] at hnext; exact absurd hnext (real_not3 ho)
    simp (maxSteps := 2000000) only [s80, ↓Za, ↓Zm, ↓Zr, ↓Ze, ↓Zk, ↓Zs, ↓Zf, ↓Zi, ↓Zg, ↓Zc, ↓Zb, ↓vdn, vup, Zl, Zn, Zh, Zj, Zo, List.map_cons, List.map_nil, cond_true, cond_false, aop, Zv, Zq, Zp, ev, sput, Zt, Zy, Ya, unK, Zd, Zw, Nat.reduceBEq, Nat.reduceAdd, Int.reduceBEq, Int.reduceBNe, Int.reduceLT, Zu, Zz, tup, tyf, Bool.not_false]
    refine hN21 [(1, .pointer (some ⟨h.length, 0, none⟩)), (2, .slice none 0 0), (3, .pointer (some ⟨h1.length, 0, none⟩)), (4, .pointer (some ⟨h1.length + 1, 0, none⟩)), (7, .pointer (some ⟨H.length, 0, none⟩)), (8, .pointer (some ⟨H.length + 1, 0, none⟩)), (9, .pointer (some ⟨H.length + 2, 0, none⟩)), (11, Zx (s + 1 : Nat)), (44, .bool true)] _ _ ?_ (by simp (maxSteps := 2000000) only [↓Za, ↓Zm, ↓Zr, ↓Ze, ↓Zk, ↓Zs, ↓Zf, ↓Zi, ↓Zg, ↓Zc, ↓Zb, ↓vdn, vup, Zl, Zn, Zh, Zj, Zo, List.map_cons, List.map_nil, cond_true, cond_false, aop, Zv, Zq, Zp, ev, sput, Zt, Zy, Ya, unK, Zd, Zw, Nat.reduceBEq, Nat.reduceAdd, Int.reduceBEq, Int.reduceBNe, Int.reduceLT, Zu, Zz, tup, tyf])
    clear hN21
    try clear N21
    refine Wu rfl ?_
    refine Yl ?_
    simp (maxSteps := 2000000) only [s80, ↓Za, ↓Zm, ↓Zr, ↓Ze, ↓Zk, ↓Zs, ↓Zf, ↓Zi, ↓Zg, ↓Zc, ↓Zb, ↓vdn, vup, Zl, Zn, Zh, Zj, Zo, List.map_cons, List.map_nil, cond_true, cond_false, aop, Zv, Zq, Zp, ev, sput, Zt, Zy, Ya, unK, Zd, Zw, Nat.reduceBEq, Nat.reduceAdd, Int.reduceBEq, Int.reduceBNe, Int.reduceLT, Zu, Zz, tup, tyf]
    refine hC [(1, .pointer (some ⟨h.length, 0, none⟩)), (2, .slice none 0 0), (3, .pointer (some ⟨h1.length, 0, none⟩)), (4, .pointer (some ⟨h1.length + 1, 0, none⟩)), (7, .pointer (some ⟨H.length, 0, none⟩)), (8, .pointer (some ⟨H.length + 1, 0, none⟩)), (9, .pointer (some ⟨H.length + 2, 0, none⟩)), (11, Zx (s + 1 : Nat))] _ _ ?_ (by simp (maxSteps := 2000000) only [↓Za, ↓Zm, ↓Zr, ↓Ze, ↓Zk, ↓Zs, ↓Zf, ↓Zi, ↓Zg, ↓Zc, ↓Zb, ↓vdn, vup, Zl, Zn, Zh, Zj, Zo, List.map_cons, List.map_nil, cond_true, cond_false, aop, Zv, Zq, Zp, ev, sput, Zt, Zy, Ya, unK, Zd, Zw, Nat.reduceBEq, Nat.reduceAdd, Int.reduceBEq, Int.reduceBNe, Int.reduceLT, Zu, Zz, tup, tyf])
    clear hC
    try clear C
    refine Yh fun B hB => ?_
    refine Yk ?_
    refine Yl ?_
    simp (maxSteps := 2000000) only [s80, ↓Za, ↓Zm, ↓Zr, ↓Ze, ↓Zk, ↓Zs, ↓Zf, ↓Zi, ↓Zg, ↓Zc, ↓Zb, ↓vdn, vup, Zl, Zn, Zh, Zj, Zo, List.map_cons, List.map_nil, cond_true, cond_false, aop, Zv, Zq, Zp, ev, sput, Zt, Zy, Ya, unK, Zd, Zw, Nat.reduceBEq, Nat.reduceAdd, Int.reduceBEq, Int.reduceBNe, Int.reduceLT, Zu, Zz, tup, tyf, store1 (v' := .slice none 0 0) f2.bx Xq rfl]
    refine hB [(1, .pointer (some ⟨h.length, 0, none⟩)), (2, .slice none 0 0), (3, .pointer (some ⟨h1.length, 0, none⟩)), (4, .pointer (some ⟨h1.length + 1, 0, none⟩)), (7, .pointer (some ⟨H.length, 0, none⟩)), (8, .pointer (some ⟨H.length + 1, 0, none⟩)), (9, .pointer (some ⟨H.length + 2, 0, none⟩)), (11, Zx (s + 1 : Nat))] _ _ ?_ (by simp (maxSteps := 2000000) only [↓Za, ↓Zm, ↓Zr, ↓Ze, ↓Zk, ↓Zs, ↓Zf, ↓Zi, ↓Zg, ↓Zc, ↓Zb, ↓vdn, vup, Zl, Zn, Zh, Zj, Zo, List.map_cons, List.map_nil, cond_true, cond_false, aop, Zv, Zq, Zp, ev, sput, Zt, Zy, Ya, unK, Zd, Zw, Nat.reduceBEq, Nat.reduceAdd, Int.reduceBEq, Int.reduceBNe, Int.reduceLT, Zu, Zz, tup, tyf])
    clear hB
    try clear B
    refine Yl ?_
    simp (maxSteps := 2000000) only [s80, ↓Za, ↓Zm, ↓Zr, ↓Ze, ↓Zk, ↓Zs, ↓Zf, ↓Zi, ↓Zg, ↓Zc, ↓Zb, ↓vdn, vup, Zl, Zn, Zh, Zj, Zo, List.map_cons, List.map_nil, cond_true, cond_false, aop, Zv, Zq, Zp, ev, sput, Zt, Zy, Ya, unK, Zd, Zw, Nat.reduceBEq, Nat.reduceAdd, Int.reduceBEq, Int.reduceBNe, Int.reduceLT, Zu, Zz, tup, tyf, add1 (show s + 1 < 9223372036854775807 by omega)]
    exact hQ2 _ _ _ ⟨(s + 1, G2.set H.length (.cells [.slice none 0 0] 22 false)), ⟨hs2, hnext, k2.trans (Ext.set _ rfl), Xw (Yn f2.bx) _⟩, by simp only; omega, by simp (maxSteps := 2000000) only [↓Za, ↓Zm, ↓Zr, ↓Ze, ↓Zk, ↓Zs, ↓Zf, ↓Zi, ↓Zg, ↓Zc, ↓Zb, ↓vdn, vup, Zl, Zn, Zh, Zj, Zo, List.map_cons, List.map_nil, cond_true, cond_false, aop, Zv, Zq, Zp, ev, sput, Zt, Zy, Ya, unK, Zd, Zw, Nat.reduceBEq, Nat.reduceAdd, Int.reduceBEq, Int.reduceBNe, Int.reduceLT, Zu, Zz, tup, tyf], rfl⟩
  | some q =>
    rw [hsr] at hres
    obtain ⟨rfl, f2⟩ := hres
    have hreal := real_hit hshort hsr hs
    obtain ⟨ql, qc, qs⟩ := real_q hsr
    simp (maxSteps := 2000000) only [s80, ↓Za, ↓Zm, ↓Zr, ↓Ze, ↓Zk, ↓Zs, ↓Zf, ↓Zi, ↓Zg, ↓Zc, ↓Zb, ↓vdn, vup, Zl, Zn, Zh, Zj, Zo, List.map_cons, List.map_nil, cond_true, cond_false, aop, Zv, Zq, Zp, ev, sput, Zt, Zy, Ya, unK, Zd, Zw, Nat.reduceBEq, Nat.reduceAdd, Int.reduceBEq, Int.reduceBNe, Int.reduceLT, Zu, Zz, tup, tyf, Bool.not_true]
    refine hN21 [(1, .pointer (some ⟨h.length, 0, none⟩)), (2, .slice none 0 0), (3, .pointer (some ⟨h1.length, 0, none⟩)), (4, .pointer (some ⟨h1.length + 1, 0, none⟩)), (7, .pointer (some ⟨H.length, 0, none⟩)), (8, .pointer (some ⟨H.length + 1, 0, none⟩)), (9, .pointer (some ⟨H.length + 2, 0, none⟩)), (11, Zx (s + 1 : Nat)), (44, .bool false)] _ _ ?_ (by simp (maxSteps := 2000000) only [↓Za, ↓Zm, ↓Zr, ↓Ze, ↓Zk, ↓Zs, ↓Zf, ↓Zi, ↓Zg, ↓Zc, ↓Zb, ↓vdn, vup, Zl, Zn, Zh, Zj, Zo, List.map_cons, List.map_nil, cond_true, cond_false, aop, Zv, Zq, Zp, ev, sput, Zt, Zy, Ya, unK, Zd, Zw, Nat.reduceBEq, Nat.reduceAdd, Int.reduceBEq, Int.reduceBNe, Int.reduceLT, Zu, Zz, tup, tyf])
    clear hN21
    try clear N21
    refine Xy rfl ?_
    refine Yl ?_
    simp (maxSteps := 2000000) only [s80, ↓Za, ↓Zm, ↓Zr, ↓Ze, ↓Zk, ↓Zs, ↓Zf, ↓Zi, ↓Zg, ↓Zc, ↓Zb, ↓vdn, vup, Zl, Zn, Zh, Zj, Zo, List.map_cons, List.map_nil, cond_true, cond_false, aop, Zv, Zq, Zp, ev, sput, Zt, Zy, Ya, unK, Zd, Zw, Nat.reduceBEq, Nat.reduceAdd, Int.reduceBEq, Int.reduceBNe, Int.reduceLT, Zu, Zz, tup, tyf]
    refine hQ2 _ _ _ (hQ _ _ _ ?_)
    simp (maxSteps := 2000000) only [s80, ↓Za, ↓Zm, ↓Zr, ↓Ze, ↓Zk, ↓Zs, ↓Zf, ↓Zi, ↓Zg, ↓Zc, ↓Zb, ↓vdn, vup, Zl, Zn, Zh, Zj, Zo, List.map_cons, List.map_nil, cond_true, cond_false, aop, Zv, Zq, Zp, ev, sput, Zt, Zy, Ya, unK, Zd, Zw, Nat.reduceBEq, Nat.reduceAdd, Int.reduceBEq, Int.reduceBNe, Int.reduceLT, Zu, Zz, tup, tyf, if_true]
    refine hZ [(1, .pointer (some ⟨h.length, 0, none⟩)), (2, .slice none 0 0), (3, .pointer (some ⟨h1.length, 0, none⟩)), (4, .pointer (some ⟨h1.length + 1, 0, none⟩)), (7, .pointer (some ⟨H.length, 0, none⟩)), (8, .pointer (some ⟨H.length + 1, 0, none⟩)), (9, .pointer (some ⟨H.length + 2, 0, none⟩))] _ _ ?_ (by simp (maxSteps := 2000000) only [↓Za, ↓Zm, ↓Zr, ↓Ze, ↓Zk, ↓Zs, ↓Zf, ↓Zi, ↓Zg, ↓Zc, ↓Zb, ↓vdn, vup, Zl, Zn, Zh, Zj, Zo, List.map_cons, List.map_nil, cond_true, cond_false, aop, Zv, Zq, Zp, ev, sput, Zt, Zy, Ya, unK, Zd, Zw, Nat.reduceBEq, Nat.reduceAdd, Int.reduceBEq, Int.reduceBNe, Int.reduceLT, Zu, Zz, tup, tyf])
    clear hZ
    try clear Z
    clear hQ hQ2
    have hEB : Ext (fun _ => False) h1 B0 := hE1H.trans yE
    have hE12 : Ext (fun _ => False) h1 G2 := ext_pf hEB k2 (by have := hE1H.1; omega)
    have r3 := k2.at_ re.ab_ re.fa
    have hqN : ∀ k ∈ q, k < cn o := fun k hk => (qc.lt k hk).2
    refine Yc fun N22 hN22 => ?_
    simp (maxSteps := 2000000) only [s80, ↓Za, ↓Zm, ↓Zr, ↓Ze, ↓Zk, ↓Zs, ↓Zf, ↓Zi, ↓Zg, ↓Zc, ↓Zb, ↓vdn, vup, Zl, Zn, Zh, Zj, Zo, List.map_cons, List.map_nil, cond_true, cond_false, aop, Zv, Zq, Zp, ev, sput, Zt, Zy, Ya, unK, Zd, Zw, Nat.reduceBEq, Nat.reduceAdd, Int.reduceBEq, Int.reduceBNe, Int.reduceLT, Zu, Zz, tup, tyf]
    refine hN22 [(1, .pointer (some ⟨h.length, 0, none⟩)), (2, .slice none 0 0), (3, .pointer (some ⟨h1.length, 0, none⟩)), (4, .pointer (some ⟨h1.length + 1, 0, none⟩)), (7, .pointer (some ⟨H.length, 0, none⟩)), (8, .pointer (some ⟨H.length + 1, 0, none⟩)), (9, .pointer (some ⟨H.length + 2, 0, none⟩)), (12, .slice none 0 0)] _ _ ?_ (by simp (maxSteps := 2000000) only [↓Za, ↓Zm, ↓Zr, ↓Ze, ↓Zk, ↓Zs, ↓Zf, ↓Zi, ↓Zg, ↓Zc, ↓Zb, ↓vdn, vup, Zl, Zn, Zh, Zj, Zo, List.map_cons, List.map_nil, cond_true, cond_false, aop, Zv, Zq, Zp, ev, sput, Zt, Zy, Ya, unK, Zd, Zw, Nat.reduceBEq, Nat.reduceAdd, Int.reduceBEq, Int.reduceBNe, Int.reduceLT, Zu, Zz, tup, tyf])
    clear hN22
    try clear N22
    refine Yh fun Z hZ => ?_
    refine Yc fun N23 hN23 => ?_
    simp (maxSteps := 2000000) only [s80, ↓Za, ↓Zm, ↓Zr, ↓Ze, ↓Zk, ↓Zs, ↓Zf, ↓Zi, ↓Zg, ↓Zc, ↓Zb, ↓vdn, vup, Zl, Zn, Zh, Zj, Zo, List.map_cons, List.map_nil, cond_true, cond_false, aop, Zv, Zq, Zp, ev, sput, Zt, Zy, Ya, unK, Zd, Zw, Nat.reduceBEq, Nat.reduceAdd, Int.reduceBEq, Int.reduceBNe, Int.reduceLT, Zu, Zz, tup, tyf, Xi f2.bx Xq, f2.own.int.len, iL_len]
    refine hN23 [(1, .pointer (some ⟨h.length, 0, none⟩)), (2, .slice none 0 0), (3, .pointer (some ⟨h1.length, 0, none⟩)), (4, .pointer (some ⟨h1.length + 1, 0, none⟩)), (7, .pointer (some ⟨H.length, 0, none⟩)), (8, .pointer (some ⟨H.length + 1, 0, none⟩)), (9, .pointer (some ⟨H.length + 2, 0, none⟩)), (12, .slice none 0 0), (47, fv), (48, Zx q.length), (49, .int .i64 0)] _ _ ?_ (by simp (maxSteps := 2000000) only [↓Za, ↓Zm, ↓Zr, ↓Ze, ↓Zk, ↓Zs, ↓Zf, ↓Zi, ↓Zg, ↓Zc, ↓Zb, ↓vdn, vup, Zl, Zn, Zh, Zj, Zo, List.map_cons, List.map_nil, cond_true, cond_false, aop, Zv, Zq, Zp, ev, sput, Zt, Zy, Ya, unK, Zd, Zw, Nat.reduceBEq, Nat.reduceAdd, Int.reduceBEq, Int.reduceBNe, Int.reduceLT, Zu, Zz, tup, tyf])
    clear hN23
    try clear N23
    refine Yk ?_
    refine Yf fun Q hQ => ?_
    refine Xt (γ := Nat × Value × Yb) (fun g => g.1 ≤ q.length ∧ OwnL 22 3 g.2.2 g.2.1 ((q.take g.1).map fun k => Wp (lin o k)) ∧ Ext (fun _ => False) G2 g.2.2 ∧ ∀ b, Yd g.2.1 = some b → G2.length ≤ b)
      (fun g => ([(1, .pointer (some ⟨h.length, 0, none⟩)), (2, .slice none 0 0), (3, .pointer (some ⟨h1.length, 0, none⟩)), (4, .pointer (some ⟨h1.length + 1, 0, none⟩)), (7, .pointer (some ⟨H.length, 0, none⟩)), (8, .pointer (some ⟨H.length + 1, 0, none⟩)), (9, .pointer (some ⟨H.length + 2, 0, none⟩)), (12, g.2.1), (47, fv), (48, Zx q.length), (49, Zx (g.1 : Nat))], g.2.2)) (fun g => q.length - g.1) (0, .slice none 0 0, G2) ⟨Nat.zero_le _, OwnL.nil, Ext.refl _ _, fun b hb => by cases hb⟩ (by simp (maxSteps := 2000000) only [↓Za, ↓Zm, ↓Zr, ↓Ze, ↓Zk, ↓Zs, ↓Zf, ↓Zi, ↓Zg, ↓Zc, ↓Zb, ↓vdn, vup, Zl, Zn, Zh, Zj, Zo, List.map_cons, List.map_nil, cond_true, cond_false, aop, Zv, Zq, Zp, ev, sput, Zt, Zy, Ya, unK, Zd, Zw, Nat.reduceBEq, Nat.reduceAdd, Int.reduceBEq, Int.reduceBNe, Int.reduceLT, Zu, Zz, tup, tyf, Int.natCast_zero]) rfl ?_
    rintro ⟨j, ov, H3⟩ ⟨hj, how3, hE3, hbw3⟩
    simp only at hj how3 hE3 hbw3
    refine Yf fun Q2 hQ2 => ?_
    simp only [l80_3]
    by_cases hjin : (j : Int) < q.length
    · have hj' : j < q.length := by omega
      have hj2 : j < (iL q).length := by rw [iL_len]; exact hj'
      obtain ⟨k, hk⟩ : ∃ k, q.getD j 0 = k := ⟨_, rfl⟩
      have hkN : k < cn o := hqN k (hk ▸ getD_memN hj')
      have hkL : k < (linesI o).length := by omega
      have rl3 := hlv.ext (hE12.trans hE3)
      obtain ⟨w, hw, hwl⟩ := rl3.load (P := prog) Xq hkL
      rw [linesI_get o hkN] at hw
      have fq := (f2.own.ext (S := fun _ => False) hE3 (fun _ _ => id)).int
      have r3' := (hE3.2 _ (Yn r3) id).trans r3
      have hnx : (q.take (j + 1)).map (fun k => Wp (lin o k)) = (q.take j).map (fun k => Wp (lin o k)) ++ [Wp (lin o k)] := by
        rw [List.take_succ, List.getElem?_eq_getElem hj', Option.toList_some, List.map_append, List.map_singleton, ← hk, List.getD, List.getElem?_eq_getElem hj']; rfl
      refine Yc fun N24 hN24 => ?_
      simp (maxSteps := 2000000) only [s80, ↓Za, ↓Zm, ↓Zr, ↓Ze, ↓Zk, ↓Zs, ↓Zf, ↓Zi, ↓Zg, ↓Zc, ↓Zb, ↓vdn, vup, Zl, Zn, Zh, Zj, Zo, List.map_cons, List.map_nil, cond_true, cond_false, aop, Zv, Zq, Zp, ev, sput, Zt, Zy, Ya, unK, Zd, Zw, Nat.reduceBEq, Nat.reduceAdd, Int.reduceBEq, Int.reduceBNe, Int.reduceLT, Zu, Zz, tup, tyf, hjin]
      refine hN24 [(1, .pointer (some ⟨h.length, 0, none⟩)), (2, .slice none 0 0), (3, .pointer (some ⟨h1.length, 0, none⟩)), (4, .pointer (some ⟨h1.length + 1, 0, none⟩)), (7, .pointer (some ⟨H.length, 0, none⟩)), (8, .pointer (some ⟨H.length + 1, 0, none⟩)), (9, .pointer (some ⟨H.length + 2, 0, none⟩)), (12, ov), (47, fv), (48, Zx q.length), (49, Zx (j : Nat)), (50, .bool true)] _ _ ?_ (by simp (maxSteps := 2000000) only [↓Za, ↓Zm, ↓Zr, ↓Ze, ↓Zk, ↓Zs, ↓Zf, ↓Zi, ↓Zg, ↓Zc, ↓Zb, ↓vdn, vup, Zl, Zn, Zh, Zj, Zo, List.map_cons, List.map_nil, cond_true, cond_false, aop, Zv, Zq, Zp, ev, sput, Zt, Zy, Ya, unK, Zd, Zw, Nat.reduceBEq, Nat.reduceAdd, Int.reduceBEq, Int.reduceBNe, Int.reduceLT, Zu, Zz, tup, tyf])
      clear hN24
      try clear N24
      refine Yc fun N25 hN25 => ?_
      simp (maxSteps := 2000000) only [s80, ↓Za, ↓Zm, ↓Zr, ↓Ze, ↓Zk, ↓Zs, ↓Zf, ↓Zi, ↓Zg, ↓Zc, ↓Zb, ↓vdn, vup, Zl, Zn, Zh, Zj, Zo, List.map_cons, List.map_nil, cond_true, cond_false, aop, Zv, Zq, Zp, ev, sput, Zt, Zy, Ya, unK, Zd, Zw, Nat.reduceBEq, Nat.reduceAdd, Int.reduceBEq, Int.reduceBNe, Int.reduceLT, Zu, Zz, tup, tyf]
      refine hN25 [(1, .pointer (some ⟨h.length, 0, none⟩)), (2, .slice none 0 0), (3, .pointer (some ⟨h1.length, 0, none⟩)), (4, .pointer (some ⟨h1.length + 1, 0, none⟩)), (7, .pointer (some ⟨H.length, 0, none⟩)), (8, .pointer (some ⟨H.length + 1, 0, none⟩)), (9, .pointer (some ⟨H.length + 2, 0, none⟩)), (12, ov), (47, fv), (48, Zx q.length), (49, Zx (j : Nat))] _ _ ?_ (by simp (maxSteps := 2000000) only [↓Za, ↓Zm, ↓Zr, ↓Ze, ↓Zk, ↓Zs, ↓Zf, ↓Zi, ↓Zg, ↓Zc, ↓Zb, ↓vdn, vup, Zl, Zn, Zh, Zj, Zo, List.map_cons, List.map_nil, cond_true, cond_false, aop, Zv, Zq, Zp, ev, sput, Zt, Zy, Ya, unK, Zd, Zw, Nat.reduceBEq, Nat.reduceAdd, Int.reduceBEq, Int.reduceBNe, Int.reduceLT, Zu, Zz, tup, tyf])
      clear hN25
      try clear N25
      refine Yh fun B hB => ?_
      refine Yk ?_
      refine Yc fun N26 hN26 => ?_
      simp (maxSteps := 2000000) only [s80, ↓Za, ↓Zm, ↓Zr, ↓Ze, ↓Zk, ↓Zs, ↓Zf, ↓Zi, ↓Zg, ↓Zc, ↓Zb, ↓vdn, vup, Zl, Zn, Zh, Zj, Zo, List.map_cons, List.map_nil, cond_true, cond_false, aop, Zv, Zq, Zp, ev, sput, Zt, Zy, Ya, unK, Zd, Zw, Nat.reduceBEq, Nat.reduceAdd, Int.reduceBEq, Int.reduceBNe, Int.reduceLT, Zu, Zz, tup, tyf, fq.idx Wk Xs hj2, fq.load Xb hj2, iL_get, hk]
      refine hN26 [(1, .pointer (some ⟨h.length, 0, none⟩)), (2, .slice none 0 0), (3, .pointer (some ⟨h1.length, 0, none⟩)), (4, .pointer (some ⟨h1.length + 1, 0, none⟩)), (7, .pointer (some ⟨H.length, 0, none⟩)), (8, .pointer (some ⟨H.length + 1, 0, none⟩)), (9, .pointer (some ⟨H.length + 2, 0, none⟩)), (12, ov), (14, Zx (k : Nat)), (47, fv), (48, Zx q.length), (49, Zx (j : Nat))] _ _ ?_ (by simp (maxSteps := 2000000) only [↓Za, ↓Zm, ↓Zr, ↓Ze, ↓Zk, ↓Zs, ↓Zf, ↓Zi, ↓Zg, ↓Zc, ↓Zb, ↓vdn, vup, Zl, Zn, Zh, Zj, Zo, List.map_cons, List.map_nil, cond_true, cond_false, aop, Zv, Zq, Zp, ev, sput, Zt, Zy, Ya, unK, Zd, Zw, Nat.reduceBEq, Nat.reduceAdd, Int.reduceBEq, Int.reduceBNe, Int.reduceLT, Zu, Zz, tup, tyf])
      clear hN26
      try clear N26
      refine Yl ?_
      simp (maxSteps := 2000000) only [s80, ↓Za, ↓Zm, ↓Zr, ↓Ze, ↓Zk, ↓Zs, ↓Zf, ↓Zi, ↓Zg, ↓Zc, ↓Zb, ↓vdn, vup, Zl, Zn, Zh, Zj, Zo, List.map_cons, List.map_nil, cond_true, cond_false, aop, Zv, Zq, Zp, ev, sput, Zt, Zy, Ya, unK, Zd, Zw, Nat.reduceBEq, Nat.reduceAdd, Int.reduceBEq, Int.reduceBNe, Int.reduceLT, Zu, Zz, tup, tyf, Xi r3' shp_45, rl3.idx el_45 esz_22 hkL, hwl, List.map_toArray, buildSl1 el_45 zero_22 esz_22 hw]
      have hval : ValSl (H3 ++ [Blk.cells [w] 22 false]) (.slice (some ⟨H3.length, 0, none⟩) 1 1) [w] := .inr ⟨H3.length, 0, none, 1, [w], 22, false, rfl, Nat.le_refl _, by simp [view, Blk.view], rfl⟩
      refine OwnL.app (how3.ext (Ext.app _ _ _)) app_45_45 hval (OwnL.single hw) (by rw [List.length_map, List.length_take, List.length_singleton]; omega) ?_
      intro ov' G3 ho' hE' hb'
      rw [← hnx] at ho'
      have hEn : Ext (fun _ => False) G2 G3 := ext_app hE3 (H' := H3 ++ [Blk.cells [w] 22 false]) (by simp) (fun q hq => List.getElem?_append_left (by have := hE3.1; omega)) (fun b hb => hbw3 b hb) hE'
      have hbw' : ∀ b, Yd ov' = some b → G2.length ≤ b := fun b hb => by
        rcases hb' with h1 | ⟨b', h1, h2⟩
        · exact hbw3 b (h1 ▸ hb)
        · rw [h1] at hb; cases hb
          rw [List.length_append] at h2
          have := hE3.1; omega
      refine hB [(1, .pointer (some ⟨h.length, 0, none⟩)), (2, .slice none 0 0), (3, .pointer (some ⟨h1.length, 0, none⟩)), (4, .pointer (some ⟨h1.length + 1, 0, none⟩)), (7, .pointer (some ⟨H.length, 0, none⟩)), (8, .pointer (some ⟨H.length + 1, 0, none⟩)), (9, .pointer (some ⟨H.length + 2, 0, none⟩)), (12, ov'), (47, fv), (48, Zx q.length), (49, Zx (j : Nat))] _ _ ?_ (by simp (maxSteps := 2000000) only [↓Za, ↓Zm, ↓Zr, ↓Ze, ↓Zk, ↓Zs, ↓Zf, ↓Zi, ↓Zg, ↓Zc, ↓Zb, ↓vdn, vup, Zl, Zn, Zh, Zj, Zo, List.map_cons, List.map_nil, cond_true, cond_false, aop, Zv, Zq, Zp, ev, sput, Zt, Zy, Ya, unK, Zd, Zw, Nat.reduceBEq, Nat.reduceAdd, Int.reduceBEq, Int.reduceBNe, Int.reduceLT, Zu, Zz, tup, tyf])
      clear hB
      try clear B
      refine Yl ?_
      simp (maxSteps := 2000000) only [s80, ↓Za, ↓Zm, ↓Zr, ↓Ze, ↓Zk, ↓Zs, ↓Zf, ↓Zi, ↓Zg, ↓Zc, ↓Zb, ↓vdn, vup, Zl, Zn, Zh, Zj, Zo, List.map_cons, List.map_nil, cond_true, cond_false, aop, Zv, Zq, Zp, ev, sput, Zt, Zy, Ya, unK, Zd, Zw, Nat.reduceBEq, Nat.reduceAdd, Int.reduceBEq, Int.reduceBNe, Int.reduceLT, Zu, Zz, tup, tyf, add1 (show j < 9223372036854775807 by omega)]
      exact hQ2 _ _ _ ⟨(j + 1, ov', G3), ⟨hj', ho', hEn, hbw'⟩, by simp only; omega, by simp (maxSteps := 2000000) only [↓Za, ↓Zm, ↓Zr, ↓Ze, ↓Zk, ↓Zs, ↓Zf, ↓Zi, ↓Zg, ↓Zc, ↓Zb, ↓vdn, vup, Zl, Zn, Zh, Zj, Zo, List.map_cons, List.map_nil, cond_true, cond_false, aop, Zv, Zq, Zp, ev, sput, Zt, Zy, Ya, unK, Zd, Zw, Nat.reduceBEq, Nat.reduceAdd, Int.reduceBEq, Int.reduceBNe, Int.reduceLT, Zu, Zz, tup, tyf], rfl⟩
    obtain rfl : j = q.length := by omega
    rw [List.take_length] at how3
    refine Yc fun N27 hN27 => ?_
    simp (maxSteps := 2000000) only [s80, ↓Za, ↓Zm, ↓Zr, ↓Ze, ↓Zk, ↓Zs, ↓Zf, ↓Zi, ↓Zg, ↓Zc, ↓Zb, ↓vdn, vup, Zl, Zn, Zh, Zj, Zo, List.map_cons, List.map_nil, cond_true, cond_false, aop, Zv, Zq, Zp, ev, sput, Zt, Zy, Ya, unK, Zd, Zw, Nat.reduceBEq, Nat.reduceAdd, Int.reduceBEq, Int.reduceBNe, Int.reduceLT, Zu, Zz, tup, tyf, hjin]
    refine hN27 [(1, .pointer (some ⟨h.length, 0, none⟩)), (2, .slice none 0 0), (3, .pointer (some ⟨h1.length, 0, none⟩)), (4, .pointer (some ⟨h1.length + 1, 0, none⟩)), (7, .pointer (some ⟨H.length, 0, none⟩)), (8, .pointer (some ⟨H.length + 1, 0, none⟩)), (9, .pointer (some ⟨H.length + 2, 0, none⟩)), (12, ov), (47, fv), (48, Zx q.length), (49, Zx q.length), (50, .bool false)] _ _ ?_ (by simp (maxSteps := 2000000) only [↓Za, ↓Zm, ↓Zr, ↓Ze, ↓Zk, ↓Zs, ↓Zf, ↓Zi, ↓Zg, ↓Zc, ↓Zb, ↓vdn, vup, Zl, Zn, Zh, Zj, Zo, List.map_cons, List.map_nil, cond_true, cond_false, aop, Zv, Zq, Zp, ev, sput, Zt, Zy, Ya, unK, Zd, Zw, Nat.reduceBEq, Nat.reduceAdd, Int.reduceBEq, Int.reduceBNe, Int.reduceLT, Zu, Zz, tup, tyf])
    clear hN27
    try clear N27
    refine Yc fun N28 hN28 => ?_
    simp (maxSteps := 2000000) only [s80, ↓Za, ↓Zm, ↓Zr, ↓Ze, ↓Zk, ↓Zs, ↓Zf, ↓Zi, ↓Zg, ↓Zc, ↓Zb, ↓vdn, vup, Zl, Zn, Zh, Zj, Zo, List.map_cons, List.map_nil, cond_true, cond_false, aop, Zv, Zq, Zp, ev, sput, Zt, Zy, Ya, unK, Zd, Zw, Nat.reduceBEq, Nat.reduceAdd, Int.reduceBEq, Int.reduceBNe, Int.reduceLT, Zu, Zz, tup, tyf]
    refine hQ2 _ _ _ (hQ _ _ _ ?_)
    simp (maxSteps := 2000000) only [s80, ↓Za, ↓Zm, ↓Zr, ↓Ze, ↓Zk, ↓Zs, ↓Zf, ↓Zi, ↓Zg, ↓Zc, ↓Zb, ↓vdn, vup, Zl, Zn, Zh, Zj, Zo, List.map_cons, List.map_nil, cond_true, cond_false, aop, Zv, Zq, Zp, ev, sput, Zt, Zy, Ya, unK, Zd, Zw, Nat.reduceBEq, Nat.reduceAdd, Int.reduceBEq, Int.reduceBNe, Int.reduceLT, Zu, Zz, tup, tyf, if_true]
    refine hZ [(1, .pointer (some ⟨h.length, 0, none⟩)), (2, .slice none 0 0), (3, .pointer (some ⟨h1.length, 0, none⟩)), (4, .pointer (some ⟨h1.length + 1, 0, none⟩)), (7, .pointer (some ⟨H.length, 0, none⟩)), (8, .pointer (some ⟨H.length + 1, 0, none⟩)), (9, .pointer (some ⟨H.length + 2, 0, none⟩)), (12, ov)] _ _ ?_ (by simp (maxSteps := 2000000) only [↓Za, ↓Zm, ↓Zr, ↓Ze, ↓Zk, ↓Zs, ↓Zf, ↓Zi, ↓Zg, ↓Zc, ↓Zb, ↓vdn, vup, Zl, Zn, Zh, Zj, Zo, List.map_cons, List.map_nil, cond_true, cond_false, aop, Zv, Zq, Zp, ev, sput, Zt, Zy, Ya, unK, Zd, Zw, Nat.reduceBEq, Nat.reduceAdd, Int.reduceBEq, Int.reduceBNe, Int.reduceLT, Zu, Zz, tup, tyf])
    clear hZ
    try clear Z
    refine Yl ?_
    simp (maxSteps := 2000000) only [s80, ↓Za, ↓Zm, ↓Zr, ↓Ze, ↓Zk, ↓Zs, ↓Zf, ↓Zi, ↓Zg, ↓Zc, ↓Zb, ↓vdn, vup, Zl, Zn, Zh, Zj, Zo, List.map_cons, List.map_nil, cond_true, cond_false, aop, Zv, Zq, Zp, ev, sput, Zt, Zy, Ya, unK, Zd, Zw, Nat.reduceBEq, Nat.reduceAdd, Int.reduceBEq, Int.reduceBNe, Int.reduceLT, Zu, Zz, tup, tyf]
    refine ⟨by rw [realLL, hreal]; exact how3.rd, (e0.trans hE1).trans (hE12.trans hE3)⟩

/-- What Real hands back. -/
def RealIs (o : List Int) (h' : Yb) (x : Value) (e : Int) : Prop := if ord o = true then e = 0 ∧ RdL 3 h' x (realLL o) else x = .slice none 0 0 ∧ e = 2
theorem real_call [BitTab prog 1] {h : Yb} {v : Value} {o : List Int} (hv : IntSl h v o) (hl : o.length < 9223372036854775808) (hx : ∀ x ∈ o, -9223372036854775808 ≤ x ∧ x < 9223372036854775808) :
    ACall prog 43 [v] h fun r h' => Ext (fun _ => False) h h' ∧ ∃ x e, r = .tuple #[x, .int .i64 e] ∧ RealIs o h' x e := by
  refine s43_call (by simp) ?_
  simp only [s43]
  simp (maxSteps := 2000000) only [s43, ↓Za, ↓Zm, ↓Zr, ↓Ze, ↓Zk, ↓Zs, ↓Zf, ↓Zi, ↓Zg, ↓Zc, ↓Zb, ↓vdn, vup, Zl, Zn, Zh, Zj, Zo, List.map_cons, List.map_nil, cond_true, cond_false, aop, Zv, Zq, Zp, ev, sput, Zt, Zy, Ya, unK, Zd, Zw, Nat.reduceBEq, Nat.reduceAdd, Int.reduceBEq, Int.reduceBNe, Int.reduceLT, Zu, Zz, tup, tyf, Xf, List.nil_append, List.append_nil, List.toList_toArray, List.cons_append]
  refine (read_call hv hl hx).mono ?_
  rintro _ g ⟨rfl, rfl⟩
  simp (maxSteps := 2000000) only [s43, ↓Za, ↓Zm, ↓Zr, ↓Ze, ↓Zk, ↓Zs, ↓Zf, ↓Zi, ↓Zg, ↓Zc, ↓Zb, ↓vdn, vup, Zl, Zn, Zh, Zj, Zo, List.map_cons, List.map_nil, cond_true, cond_false, aop, Zv, Zq, Zp, ev, sput, Zt, Zy, Ya, unK, Zd, Zw, Nat.reduceBEq, Nat.reduceAdd, Int.reduceBEq, Int.reduceBNe, Int.reduceLT, Zu, Zz, tup, tyf, We, Xg, zeroN, zero_77]
  rw [storeRd]
  obtain ⟨hE, hb⟩ := rdBox g o
  generalize hgl : g.length = gl at hE hb ⊢
  generalize (g ++ [Blk.cells (ordN 0) 77 false]).set gl (.cells (rdC o) 77 false) = G at hE hb ⊢
  cases ho : ord o with
  | false =>
    simp (maxSteps := 2000000) only [s43, ↓Za, ↓Zm, ↓Zr, ↓Ze, ↓Zk, ↓Zs, ↓Zf, ↓Zi, ↓Zg, ↓Zc, ↓Zb, ↓vdn, vup, Zl, Zn, Zh, Zj, Zo, List.map_cons, List.map_nil, cond_true, cond_false, aop, Zv, Zq, Zp, ev, sput, Zt, Zy, Ya, unK, Zd, Zw, Nat.reduceBEq, Nat.reduceAdd, Int.reduceBEq, Int.reduceBNe, Int.reduceLT, Zu, Zz, tup, tyf, ho]
    exact ⟨hE, _, _, rfl, by rw [RealIs, ho]; exact ⟨rfl, rfl⟩⟩
  | true =>
    have hrd : rdC o = Ww o := if_pos (Xk ho)
    rw [hrd] at hb
    simp (maxSteps := 2000000) only [s43, ↓Za, ↓Zm, ↓Zr, ↓Ze, ↓Zk, ↓Zs, ↓Zf, ↓Zi, ↓Zg, ↓Zc, ↓Zb, ↓vdn, vup, Zl, Zn, Zh, Zj, Zo, List.map_cons, List.map_nil, cond_true, cond_false, aop, Zv, Zq, Zp, ev, sput, Zt, Zy, Ya, unK, Zd, Zw, Nat.reduceBEq, Nat.reduceAdd, Int.reduceBEq, Int.reduceBNe, Int.reduceLT, Zu, Zz, tup, tyf, ho, loadO hb Xr (Xk ho).2, Xf, List.nil_append, List.append_nil, List.toList_toArray, List.cons_append]
    refine (realizer_call ho).mono ?_
    rintro r H ⟨hr, hEH⟩
    exact ⟨hE.trans hEH, _, _, rfl, by rw [RealIs, ho]; exact ⟨rfl, hr⟩⟩
/-- What Dim hands back. -/
def dimV (o : List Int) : Value := if ord o = true then .tuple #[Zx (realL o).length, .int .i64 0] else .tuple #[.int .i64 0, .int .i64 2]
theorem dim_call [BitTab prog 1] {h : Yb} {v : Value} {o : List Int} (hv : IntSl h v o) (hl : o.length < 9223372036854775808) (hx : ∀ x ∈ o, -9223372036854775808 ≤ x ∧ x < 9223372036854775808) : APure prog 44 [v] h (dimV o) := by
  have hlow : Low (dimV o) := by unfold dimV; split <;> exact .pair (.int _ _) (.int _ _)
  refine ACall.forget hlow ?_
  refine s44_call (by simp) ?_
  simp only [s44]
  simp (maxSteps := 2000000) only [s44, ↓Za, ↓Zm, ↓Zr, ↓Ze, ↓Zk, ↓Zs, ↓Zf, ↓Zi, ↓Zg, ↓Zc, ↓Zb, ↓vdn, vup, Zl, Zn, Zh, Zj, Zo, List.map_cons, List.map_nil, cond_true, cond_false, aop, Zv, Zq, Zp, ev, sput, Zt, Zy, Ya, unK, Zd, Zw, Nat.reduceBEq, Nat.reduceAdd, Int.reduceBEq, Int.reduceBNe, Int.reduceLT, Zu, Zz, tup, tyf, Xf, List.nil_append, List.append_nil, List.toList_toArray, List.cons_append]
  refine (real_call hv hl hx).mono ?_
  rintro _ G ⟨hE, x, e, rfl, hr⟩
  cases ho : ord o with
  | false =>
    rw [RealIs, ho, if_neg (by decide)] at hr
    obtain ⟨rfl, rfl⟩ := hr
    simp (maxSteps := 2000000) only [s44, ↓Za, ↓Zm, ↓Zr, ↓Ze, ↓Zk, ↓Zs, ↓Zf, ↓Zi, ↓Zg, ↓Zc, ↓Zb, ↓vdn, vup, Zl, Zn, Zh, Zj, Zo, List.map_cons, List.map_nil, cond_true, cond_false, aop, Zv, Zq, Zp, ev, sput, Zt, Zy, Ya, unK, Zd, Zw, Nat.reduceBEq, Nat.reduceAdd, Int.reduceBEq, Int.reduceBNe, Int.reduceLT, Zu, Zz, tup, tyf, lenK, Int.natCast_zero]
    exact ⟨by rw [dimV, ho]; rfl, hE⟩
  | true =>
    rw [RealIs, ho, if_pos rfl] at hr
    obtain ⟨rfl, hr⟩ := hr
    have hlr : (realLL o).length = (realL o).length := by rw [realLL, List.length_map]
    simp (maxSteps := 2000000) only [s44, ↓Za, ↓Zm, ↓Zr, ↓Ze, ↓Zk, ↓Zs, ↓Zf, ↓Zi, ↓Zg, ↓Zc, ↓Zb, ↓vdn, vup, Zl, Zn, Zh, Zj, Zo, List.map_cons, List.map_nil, cond_true, cond_false, aop, Zv, Zq, Zp, ev, sput, Zt, Zy, Ya, unK, Zd, Zw, Nat.reduceBEq, Nat.reduceAdd, Int.reduceBEq, Int.reduceBNe, Int.reduceLT, Zu, Zz, tup, tyf, hr.len, hlr]
    exact ⟨by rw [dimV, ho]; rfl, hE⟩
end Go.Proofs.Tryd.Am

namespace Go.Am
section
variable {P : Program} {e e2 : TypeId} {h : Yb} {v : Value} {ws : List Value} {Ls : List (List Int)}
/-- A row cut to its length by force: what is put behind it goes into a new block. -/
def CapV (e : TypeId) (h : Yb) (v : Value) (ws : List Value) : Prop := (v = .slice none 0 0 ∧ ws = []) ∨ (∃ (b : Nat) (ys : List Value), v = .slice (some ⟨b, 0, none⟩) ws.length ws.length ∧ ws ≠ [] ∧ h[b]? = some (.cells (ws ++ ys) e false))
theorem OwnV.cap {t : TypeId} (ho : OwnV e h v ws) (he : elemOf' P t = some e) (hs : esz P e = some 1) {K : Value → Prop} (hk : ∀ v', CapV e h v' ws → K v') :
    Xo P t v none (some (Zx ws.length)) (some (Zx ws.length)) K := by
  rcases ho with ⟨rfl, rfl⟩ | ⟨b, ys, rfl, hne, hb⟩
  · simp only [Xo, he, hs, bnd, Option.bind_some, Option.isSome_some]
    exact ⟨trivial, rfl, rfl, rfl, hk _ (.inl ⟨rfl, rfl⟩)⟩
  · simp only [Xo, he, hs, bnd]
    refine ⟨Int.le_refl _, by omega, by omega, by omega, rfl, ?_⟩
    have h1 : (if (ws.length : Int) = ((0 : Nat) : Int) then 0 else 0 + (((0 : Nat) : Int)).toNat * 1) = 0 := by split <;> rfl
    have h2 : ((ws.length : Int) - ((0 : Nat) : Int)).toNat = ws.length := by omega
    have h3 : (ws.length : Int).toNat - ((0 : Nat) : Int).toNat = ws.length := by simp
    rw [h1, h2, h3]
    exact hk _ (.inr ⟨b, ys, rfl, hne, hb⟩)
theorem CapV.ext {h' : Yb} (c : CapV e h v ws) (hE : Ext (fun _ => False) h h') : CapV e h' v ws :=
  c.imp id fun ⟨b, ys, h1, h2, h3⟩ => ⟨b, ys, h1, h2, (hE.2 b (Yn h3) id).trans h3⟩
theorem CapV.app {t t2 : TypeId} {bytes : Nat} {x : Value} {us : List Value} (ho : CapV e h v ws) (hT : appT P t t2 = some (e, 1, bytes)) (hx : ValSl h x us) (hu0 : us ≠ []) (hw : ∀ w ∈ ws ++ us, notI w = true ∧ one w = true) (hn : (ws.length + us.length) * bytes ≤ 140737488355328)
    {K : Value → Yb → Prop} (hk : ∀ v', OwnV e (h ++ [.cells (ws ++ us) e false]) v' (ws ++ us) → K v' (h ++ [.cells (ws ++ us) e false])) : Yx P h t t2 v x K := by
  have hul : us.length ≠ 0 := fun h => hu0 (List.length_eq_zero_iff.1 h)
  simp only [Yx, hT]
  refine hx.elems ?_
  rcases ho with ⟨rfl, rfl⟩ | ⟨b, ys, rfl, hne, hb⟩
  · simp only [putK]
    refine ⟨fun h0 => absurd h0 hul, fun h0 => ⟨by simpa using hn, ?_⟩⟩
    rw [mkb_no hu0 (fun w h => (hw w (by simp [h])).1)]
    refine hk _ (.inr ⟨h.length, [], by simp, by simpa using hu0, ?_⟩)
    rw [List.getElem?_append_right (Nat.le_refl _)]
    simp
  · simp only [putK, hb]
    refine ⟨fun hroom => by omega, fun _ => ⟨hn, ?_⟩⟩
    rw [Vh (c := ws ++ ys) (e := e) (ro := false) (by simp [view, hb, Blk.view]) (.inl (by rw [Wv hb]; rfl))]
    have e1 : List.take (ws.length * 1) (List.drop 0 (ws ++ ys)) = ws := by simp
    refine ⟨by simp, ?_⟩
    rw [e1, mkb_no (by simp [hne]) (fun w h => (hw w h).1)]
    refine hk _ (.inr ⟨h.length, [], by simp, by simp [hne], ?_⟩)
    rw [List.getElem?_append_right (Nat.le_refl _)]
    simp
end
end Go.Am
namespace Go.Proofs.Tryd.Am
open Go.Am Ord
set_option maxRecDepth 100000
set_option maxHeartbeats 4000000

/-- For each the free ones that no line taken has turned. -/
def lfM (o : List Int) (pre : List Nat) (x : Nat) : Nat := msk ((List.range o.length).filter fun j => fr o x j && pre.all fun k => !bef (lin o k) j x)
/-- On the way through a line: elements ahead of place i are through, the i-th one for the first m. -/
def lst (o : List Int) (pre l : List Nat) (i m x : Nat) : Nat := msk ((List.range o.length).filter fun j => (fr o x j && pre.all fun k => !bef (lin o k) j x) && !(decide (l.idxOf x < i) && bef l j x || decide (l.idxOf x = i) && decide (l.idxOf j < m)))
theorem lfM_bit {o : List Int} {pre : List Nat} {x j : Nat} : (lfM o pre x).testBit j = true ↔ j < o.length ∧ (fr o x j && pre.all fun k => !bef (lin o k) j x) = true := by
  rw [lfM, msk_bit, List.mem_filter, List.mem_range]
theorem lst_bit {o : List Int} {pre l : List Nat} {i m x j : Nat} : (lst o pre l i m x).testBit j = true ↔ j < o.length ∧ ((fr o x j && pre.all fun k => !bef (lin o k) j x) && !(decide (l.idxOf x < i) && bef l j x || decide (l.idxOf x = i) && decide (l.idxOf j < m))) = true := by
  rw [lst, msk_bit, List.mem_filter, List.mem_range]
theorem lst_zero (o : List Int) (pre l : List Nat) (x : Nat) : lst o pre l 0 0 x = lfM o pre x := by
  rw [lst, lfM]
  refine congrArg msk (List.filter_congr fun j _ => ?_)
  simp
theorem lst_next (o : List Int) (pre l : List Nat) (i x : Nat) : lst o pre l i i x = lst o pre l (i + 1) 0 x := by
  rw [lst, lst]
  refine congrArg msk (List.filter_congr fun j _ => ?_)
  congr 2
  simp only [bef, Nat.not_lt_zero, decide_false, Bool.and_false, Bool.or_false]
  rw [Bool.eq_iff_iff]
  simp only [Bool.or_eq_true, Bool.and_eq_true, decide_eq_true_eq]
  constructor
  · rintro (⟨h1, h2⟩ | ⟨h1, h2⟩)
    · exact ⟨by omega, h2⟩
    · exact ⟨by omega, by omega⟩
  · rintro ⟨h1, h2⟩
    by_cases h : l.idxOf x = i
    · exact .inr ⟨h, by omega⟩
    · exact .inl ⟨by omega, h2⟩
theorem lst_all {o : List Int} {pre : List Nat} {k x : Nat} (hx : (lin o k).idxOf x < (lin o k).length) : lst o pre (lin o k) (lin o k).length 0 x = lfM o (pre ++ [k]) x := by
  rw [lst, lfM]
  refine congrArg msk (List.filter_congr fun j _ => ?_)
  have h1 : decide ((lin o k).idxOf x < (lin o k).length) = true := decide_eq_true hx
  have h2 : decide ((lin o k).idxOf x = (lin o k).length) = false := decide_eq_false (Nat.ne_of_lt hx)
  rw [h1, h2, List.all_append, ← Bool.and_assoc]
  simp only [Bool.true_and, Bool.false_and, Bool.or_false, List.all_cons, List.all_nil, Bool.and_true]
theorem lst_lt (o : List Int) (pre l : List Nat) (i m x : Nat) : lst o pre l i m x < 2 ^ o.length := msk_lt fun a ha => List.mem_range.1 (List.mem_filter.1 ha).1
theorem lst_set {o : List Int} {pre l : List Nat} (hn : l.Nodup) {i m x : Nat} (hi : i < l.length) (hm : m < l.length) (hx : x ∈ l) :
    lst o pre l i (m + 1) x = if x = l.getD i 0 then Wj (lst o pre l i m x) (2 ^ l.getD m 0) else lst o pre l i m x := by
  have hii := idx_at hn hi
  have hmm := idx_at hn hm
  refine Nat.eq_of_testBit_eq fun j => ?_
  by_cases hxi : x = l.getD i 0
  · rw [if_pos hxi, less_bit', Bool.eq_iff_iff, Bool.and_eq_true, lst_bit, lst_bit, Nat.testBit_two_pow]
    have hix : l.idxOf x = i := by rw [hxi]; exact hii
    simp only [hix, Nat.lt_irrefl, decide_false, Bool.false_and, Bool.false_or, decide_true, Bool.true_and, Bool.and_eq_true, Bool.not_eq_true', decide_eq_false_iff_not]
    have hj : l.idxOf j = m ↔ l.getD m 0 = j := by
      constructor
      · intro h
        have hjl : j ∈ l := by
          rcases Classical.em (j ∈ l) with h1 | h1
          · exact h1
          · rw [List.idxOf_eq_length h1] at h; omega
        exact (idx_inj hjl (by rw [getD_at hm]; exact List.getElem_mem hm) (by rw [h, hmm])).symm
      · rintro rfl; exact hmm
    constructor
    · rintro ⟨h1, h2, h3⟩
      exact ⟨⟨h1, h2, by omega⟩, fun h4 => by have := hj.2 h4; omega⟩
    · rintro ⟨⟨h1, h2, h3⟩, h4⟩
      refine ⟨h1, h2, fun h5 => h4 (hj.1 (by omega))⟩
  · rw [if_neg hxi, Bool.eq_iff_iff, lst_bit, lst_bit]
    have hix : l.idxOf x ≠ i := fun h => hxi (idx_inj hx (by rw [getD_at hi]; exact List.getElem_mem hi) (by rw [h, hii]))
    simp only [hix, decide_false, Bool.false_and, Bool.or_false]
/-- A table of masks. -/
def tbL (o : List Int) (f : Nat → Nat) : List Int := (List.range o.length).map fun x => ((f x : Nat) : Int)
theorem tbL_len (o : List Int) (f : Nat → Nat) : (tbL o f).length = o.length := by simp [tbL]
theorem tbL_get {o : List Int} {f : Nat → Nat} {x : Nat} (hx : x < o.length) : (tbL o f).getD x 0 = ((f x : Nat) : Int) := mapR_getD hx
theorem tbL_congr {o : List Int} {f g : Nat → Nat} (h : ∀ x, x < o.length → f x = g x) : tbL o f = tbL o g := List.map_congr_left fun x hx => by rw [h x (List.mem_range.1 hx)]
theorem tbL_set {o : List Int} {f g : Nat → Nat} {x y : Nat} (hg : ∀ k, k < o.length → g k = if k = x then y else f k) : (tbL o f).set x ((y : Nat) : Int) = tbL o g := by
  refine List.ext_getElem (by simp [tbL]) fun k h1 h2 => ?_
  have hk : k < o.length := by simpa [tbL] using h2
  rw [List.getElem_set]
  simp only [tbL, List.getElem_map, List.getElem_range]
  rw [hg k hk]
  by_cases hx : x = k
  · rw [if_pos hx, if_pos hx.symm]
  · rw [if_neg hx, if_neg (Ne.symm hx)]
/-- No table left: the lines taken do. -/
theorem lfM_sep {o : List Int} (ho : ord o = true) {pre : List Nat} (h0 : pre ≠ []) (hk : ∀ k ∈ pre, k < cn o) : (∀ x, x < o.length → lfM o pre x = 0) ↔ sepB o pre = true := by
  rw [sepB_iff]
  constructor
  · intro h i j hi hj hne hab
    cases hba : ab o j i with
    | true =>
      obtain ⟨k, hkp⟩ := List.exists_mem_of_ne_nil _ h0
      exact ⟨k, hkp, (Vb ho (hk k hkp)).ab j i hba⟩
    | false =>
      refine Classical.byContradiction fun hc => ?_
      have h1 : (lfM o pre i).testBit j = true := lfM_bit.2 ⟨hj, by
        rw [Bool.and_eq_true]
        refine ⟨by simp [fr, hne, hab, hba], List.all_eq_true.2 fun k hkp => ?_⟩
        cases hb : bef (lin o k) j i with
        | false => rfl
        | true => exact absurd ⟨k, hkp, hb⟩ hc⟩
      rw [h i hi, Nat.zero_testBit] at h1; cases h1
  · intro h i hi
    refine Nat.eq_of_testBit_eq fun j => ?_
    rw [Nat.zero_testBit, Bool.eq_false_iff]
    intro hb
    obtain ⟨hj, hb⟩ := lfM_bit.1 hb
    rw [Bool.and_eq_true] at hb
    have hf := hb.1
    simp only [fr, Bool.and_eq_true, decide_eq_true_eq, Bool.not_eq_true'] at hf
    obtain ⟨k, hkp, hb2⟩ := h i j hi hj hf.1.1 hf.1.2
    have := List.all_eq_true.1 hb.2 k hkp
    have hb3 : bef (lin o k) j i = true := hb2
    rw [hb3] at this; cases this
/-- Some of the first m is left. -/
def Xv (o : List Int) (pre : List Nat) (m : Nat) : Bool := (List.range m).any fun x => lfM o pre x != 0
theorem moreB_succ (o : List Int) (pre : List Nat) (m : Nat) : Xv o pre (m + 1) = (Xv o pre m || lfM o pre m != 0) := by
  rw [Xv, List.range_succ, List.any_append]; simp [Xv]
theorem moreB_sep {o : List Int} (ho : ord o = true) {pre : List Nat} (h0 : pre ≠ []) (hk : ∀ k ∈ pre, k < cn o) : sepB o pre = !Xv o pre o.length := by
  rw [Bool.eq_iff_iff, ← lfM_sep ho h0 hk]
  simp only [Xv, Bool.not_eq_true', List.any_eq_false, List.mem_range, bne_iff_ne, ne_eq, Classical.not_not]
/-- The lines with these numbers. -/
def lnL (o : List Int) (q : List Nat) : List (List Int) := q.map fun k => Wp (lin o k)
theorem lnL_len (o : List Int) (q : List Nat) : (lnL o q).length = q.length := by simp [lnL]
theorem realLL_eq (o : List Int) : realLL o = lnL o (realL o) := rfl

/-- What the search hands back. -/
def RR (o : List Int) (h : Yb) (r : Value) : Option (List Nat) → Prop
  | none => r = .slice none 0 0
  | some q => OwnL 22 3 h r (lnL o q)
theorem ownL_some {e e2 : TypeId} {h : Yb} {v : Value} {Ls : List (List Int)} (ho : OwnL e e2 h v Ls) (hne : Ls ≠ []) : ∃ p n c, v = .slice (some p) n c := by
  obtain ⟨ws, h1, h2⟩ := ho
  rcases h1 with ⟨rfl, rfl⟩ | ⟨b, ys, rfl, _⟩
  · have := h2.len; exact absurd (List.length_eq_zero_iff.1 this.symm) hne
  · exact ⟨_, _, _, rfl⟩
theorem neI0 (n : Nat) : (((n : Nat) : Int) != 0) = (n != 0) := by
  rw [Bool.eq_iff_iff]; simp

theorem s82_callW [Tabs Tryd.prog] {args : List Value} {h : Yb} {Q : Value → Yb → Prop} (hsz : args.length ≤ 102) (hk : AWS Tryd.prog 102 s82 (Zu Tryd.prog [.tmp 12] Q) (Zp 0 args) h) : ACall Tryd.prog 82 args h Q :=
  acall_w Tryd.func82 rfl (enters_of Tryd.func82 (by kernel_rfl) rfl) rfl rfl (by decide) s82_strip s82_ok hsz hk
theorem rreal_call [Tabs prog] {o : List Int} (ho : ord o = true) {v av : Value} : ∀ (s fr : Nat) (pre : List Nat) (h : Yb) (lv bv : Value), (s = 0 → pre ≠ []) → pre.length + s ≤ 4000 → (∀ k ∈ pre, k < cn o) → fr ≤ cn o → IntSl h v o → RdL 3 h av (linesI o) →
    IntSl h lv (tbL o (lfM o pre)) → OwnL 22 3 h bv (lnL o pre) → ACall prog 82 [v, av, lv, Zx s, Zx fr, bv] h fun r h' => Ext (fun _ => False) h h' ∧ RR o h' r (srch (sepB o) (cn o) 0 s fr pre) := by
  have hln := Xk ho
  have hcn := cn_le ho
  have hp := pow6 hln.2
  intro s
  induction s using Nat.strongRecOn with
  | _ s ih =>
  intro fr pre h lv bv h0 hp3 hk hfr hv hav hlv hbv
  refine s82_callW (by simp) ?_
  simp only [s82]
  refine Yc fun N1 hN1 => ?_
  simp (maxSteps := 2000000) only [s82, ↓Za, ↓Zm, ↓Zr, ↓Ze, ↓Zk, ↓Zs, ↓Zf, ↓Zi, ↓Zg, ↓Zc, ↓Zb, ↓vdn, vup, Zl, Zn, Zh, Zj, Zo, List.map_cons, List.map_nil, cond_true, cond_false, aop, Zv, Zq, Zp, ev, sput, Zt, Zy, Ya, unK, Zd, Zw, Nat.reduceBEq, Nat.reduceAdd, Int.reduceBEq, Int.reduceBNe, Int.reduceLT, Zu, Zz, tup, tyf]
  refine hN1 [(0, v), (1, av), (2, lv), (3, Zx (s : Nat)), (4, Zx (fr : Nat)), (5, bv), (12, .slice none 0 0)] _ _ ?_ (by simp (maxSteps := 2000000) only [↓Za, ↓Zm, ↓Zr, ↓Ze, ↓Zk, ↓Zs, ↓Zf, ↓Zi, ↓Zg, ↓Zc, ↓Zb, ↓vdn, vup, Zl, Zn, Zh, Zj, Zo, List.map_cons, List.map_nil, cond_true, cond_false, aop, Zv, Zq, Zp, ev, sput, Zt, Zy, Ya, unK, Zd, Zw, Nat.reduceBEq, Nat.reduceAdd, Int.reduceBEq, Int.reduceBNe, Int.reduceLT, Zu, Zz, tup, tyf])
  clear hN1
  try clear N1
  refine Yc fun N2 hN2 => ?_
  simp (maxSteps := 2000000) only [s82, ↓Za, ↓Zm, ↓Zr, ↓Ze, ↓Zk, ↓Zs, ↓Zf, ↓Zi, ↓Zg, ↓Zc, ↓Zb, ↓vdn, vup, Zl, Zn, Zh, Zj, Zo, List.map_cons, List.map_nil, cond_true, cond_false, aop, Zv, Zq, Zp, ev, sput, Zt, Zy, Ya, unK, Zd, Zw, Nat.reduceBEq, Nat.reduceAdd, Int.reduceBEq, Int.reduceBNe, Int.reduceLT, Zu, Zz, tup, tyf]
  refine hN2 [(0, v), (1, av), (2, lv), (3, Zx (s : Nat)), (4, Zx (fr : Nat)), (5, bv), (12, .slice none 0 0), (13, .bool false)] _ _ ?_ (by simp (maxSteps := 2000000) only [↓Za, ↓Zm, ↓Zr, ↓Ze, ↓Zk, ↓Zs, ↓Zf, ↓Zi, ↓Zg, ↓Zc, ↓Zb, ↓vdn, vup, Zl, Zn, Zh, Zj, Zo, List.map_cons, List.map_nil, cond_true, cond_false, aop, Zv, Zq, Zp, ev, sput, Zt, Zy, Ya, unK, Zd, Zw, Nat.reduceBEq, Nat.reduceAdd, Int.reduceBEq, Int.reduceBNe, Int.reduceLT, Zu, Zz, tup, tyf])
  clear hN2
  try clear N2
  refine Yh fun Z hZ => ?_
  refine Yc fun N3 hN3 => ?_
  simp (maxSteps := 2000000) only [s82, ↓Za, ↓Zm, ↓Zr, ↓Ze, ↓Zk, ↓Zs, ↓Zf, ↓Zi, ↓Zg, ↓Zc, ↓Zb, ↓vdn, vup, Zl, Zn, Zh, Zj, Zo, List.map_cons, List.map_nil, cond_true, cond_false, aop, Zv, Zq, Zp, ev, sput, Zt, Zy, Ya, unK, Zd, Zw, Nat.reduceBEq, Nat.reduceAdd, Int.reduceBEq, Int.reduceBNe, Int.reduceLT, Zu, Zz, tup, tyf, hlv.len, tbL_len]
  refine hN3 [(0, v), (1, av), (2, lv), (3, Zx (s : Nat)), (4, Zx (fr : Nat)), (5, bv), (12, .slice none 0 0), (13, .bool false), (23, lv), (24, Zx o.length), (25, .int .i64 0)] _ _ ?_ (by simp (maxSteps := 2000000) only [↓Za, ↓Zm, ↓Zr, ↓Ze, ↓Zk, ↓Zs, ↓Zf, ↓Zi, ↓Zg, ↓Zc, ↓Zb, ↓vdn, vup, Zl, Zn, Zh, Zj, Zo, List.map_cons, List.map_nil, cond_true, cond_false, aop, Zv, Zq, Zp, ev, sput, Zt, Zy, Ya, unK, Zd, Zw, Nat.reduceBEq, Nat.reduceAdd, Int.reduceBEq, Int.reduceBNe, Int.reduceLT, Zu, Zz, tup, tyf])
  clear hN3
  try clear N3
  refine Yk ?_
  refine Yf fun Q hQ => ?_
  refine Xt (γ := Nat) (fun i => i ≤ o.length) (fun i => ([(0, v), (1, av), (2, lv), (3, Zx (s : Nat)), (4, Zx (fr : Nat)), (5, bv), (12, .slice none 0 0), (13, .bool (Xv o pre i)), (23, lv), (24, Zx o.length), (25, Zx (i : Nat))], h)) (fun i => o.length - i) 0 (Nat.zero_le _) (by simp (maxSteps := 2000000) only [↓Za, ↓Zm, ↓Zr, ↓Ze, ↓Zk, ↓Zs, ↓Zf, ↓Zi, ↓Zg, ↓Zc, ↓Zb, ↓vdn, vup, Zl, Zn, Zh, Zj, Zo, List.map_cons, List.map_nil, cond_true, cond_false, aop, Zv, Zq, Zp, ev, sput, Zt, Zy, Ya, unK, Zd, Zw, Nat.reduceBEq, Nat.reduceAdd, Int.reduceBEq, Int.reduceBNe, Int.reduceLT, Zu, Zz, tup, tyf, Int.natCast_zero, show Xv o pre 0 = false from rfl]) rfl ?_
  rintro i hi
  refine Yf fun Q2 hQ2 => ?_
  simp only [l82_0]
  by_cases hiin : (i : Int) < o.length
  · have hi' : i < o.length := by omega
    have hiT : i < (tbL o (lfM o pre)).length := by rw [tbL_len]; exact hi'
    have hms := moreB_succ o pre i
    refine Yc fun N4 hN4 => ?_
    simp (maxSteps := 2000000) only [s82, ↓Za, ↓Zm, ↓Zr, ↓Ze, ↓Zk, ↓Zs, ↓Zf, ↓Zi, ↓Zg, ↓Zc, ↓Zb, ↓vdn, vup, Zl, Zn, Zh, Zj, Zo, List.map_cons, List.map_nil, cond_true, cond_false, aop, Zv, Zq, Zp, ev, sput, Zt, Zy, Ya, unK, Zd, Zw, Nat.reduceBEq, Nat.reduceAdd, Int.reduceBEq, Int.reduceBNe, Int.reduceLT, Zu, Zz, tup, tyf, hiin]
    refine hN4 [(0, v), (1, av), (2, lv), (3, Zx (s : Nat)), (4, Zx (fr : Nat)), (5, bv), (12, .slice none 0 0), (13, .bool (Xv o pre i)), (23, lv), (24, Zx o.length), (25, Zx (i : Nat)), (26, .bool true)] _ _ ?_ (by simp (maxSteps := 2000000) only [↓Za, ↓Zm, ↓Zr, ↓Ze, ↓Zk, ↓Zs, ↓Zf, ↓Zi, ↓Zg, ↓Zc, ↓Zb, ↓vdn, vup, Zl, Zn, Zh, Zj, Zo, List.map_cons, List.map_nil, cond_true, cond_false, aop, Zv, Zq, Zp, ev, sput, Zt, Zy, Ya, unK, Zd, Zw, Nat.reduceBEq, Nat.reduceAdd, Int.reduceBEq, Int.reduceBNe, Int.reduceLT, Zu, Zz, tup, tyf])
    clear hN4
    try clear N4
    refine Yc fun N5 hN5 => ?_
    simp (maxSteps := 2000000) only [s82, ↓Za, ↓Zm, ↓Zr, ↓Ze, ↓Zk, ↓Zs, ↓Zf, ↓Zi, ↓Zg, ↓Zc, ↓Zb, ↓vdn, vup, Zl, Zn, Zh, Zj, Zo, List.map_cons, List.map_nil, cond_true, cond_false, aop, Zv, Zq, Zp, ev, sput, Zt, Zy, Ya, unK, Zd, Zw, Nat.reduceBEq, Nat.reduceAdd, Int.reduceBEq, Int.reduceBNe, Int.reduceLT, Zu, Zz, tup, tyf]
    refine hN5 [(0, v), (1, av), (2, lv), (3, Zx (s : Nat)), (4, Zx (fr : Nat)), (5, bv), (12, .slice none 0 0), (13, .bool (Xv o pre i)), (23, lv), (24, Zx o.length), (25, Zx (i : Nat))] _ _ ?_ (by simp (maxSteps := 2000000) only [↓Za, ↓Zm, ↓Zr, ↓Ze, ↓Zk, ↓Zs, ↓Zf, ↓Zi, ↓Zg, ↓Zc, ↓Zb, ↓vdn, vup, Zl, Zn, Zh, Zj, Zo, List.map_cons, List.map_nil, cond_true, cond_false, aop, Zv, Zq, Zp, ev, sput, Zt, Zy, Ya, unK, Zd, Zw, Nat.reduceBEq, Nat.reduceAdd, Int.reduceBEq, Int.reduceBNe, Int.reduceLT, Zu, Zz, tup, tyf])
    clear hN5
    try clear N5
    refine Yh fun B hB => ?_
    refine Yk ?_
    refine Yc fun N6 hN6 => ?_
    simp (maxSteps := 2000000) only [s82, ↓Za, ↓Zm, ↓Zr, ↓Ze, ↓Zk, ↓Zs, ↓Zf, ↓Zi, ↓Zg, ↓Zc, ↓Zb, ↓vdn, vup, Zl, Zn, Zh, Zj, Zo, List.map_cons, List.map_nil, cond_true, cond_false, aop, Zv, Zq, Zp, ev, sput, Zt, Zy, Ya, unK, Zd, Zw, Nat.reduceBEq, Nat.reduceAdd, Int.reduceBEq, Int.reduceBNe, Int.reduceLT, Zu, Zz, tup, tyf, hlv.idx Wk Xs hiT, hlv.load Xb hiT, tbL_get hi']
    refine hN6 [(0, v), (1, av), (2, lv), (3, Zx (s : Nat)), (4, Zx (fr : Nat)), (5, bv), (12, .slice none 0 0), (13, .bool (Xv o pre i)), (15, Zx (lfM o pre i : Nat)), (23, lv), (24, Zx o.length), (25, Zx (i : Nat))] _ _ ?_ (by simp (maxSteps := 2000000) only [↓Za, ↓Zm, ↓Zr, ↓Ze, ↓Zk, ↓Zs, ↓Zf, ↓Zi, ↓Zg, ↓Zc, ↓Zb, ↓vdn, vup, Zl, Zn, Zh, Zj, Zo, List.map_cons, List.map_nil, cond_true, cond_false, aop, Zv, Zq, Zp, ev, sput, Zt, Zy, Ya, unK, Zd, Zw, Nat.reduceBEq, Nat.reduceAdd, Int.reduceBEq, Int.reduceBNe, Int.reduceLT, Zu, Zz, tup, tyf])
    clear hN6
    try clear N6
    refine Yl ?_
    have hms2 : Xv o pre (i + 1) = (Xv o pre i || (((lfM o pre i : Nat) : Int) != 0)) := by rw [hms, neI0]
    cases hm : Xv o pre i with
    | true =>
      rw [hm, Bool.true_or] at hms2
      simp (maxSteps := 2000000) only [s82, ↓Za, ↓Zm, ↓Zr, ↓Ze, ↓Zk, ↓Zs, ↓Zf, ↓Zi, ↓Zg, ↓Zc, ↓Zb, ↓vdn, vup, Zl, Zn, Zh, Zj, Zo, List.map_cons, List.map_nil, cond_true, cond_false, aop, Zv, Zq, Zp, ev, sput, Zt, Zy, Ya, unK, Zd, Zw, Nat.reduceBEq, Nat.reduceAdd, Int.reduceBEq, Int.reduceBNe, Int.reduceLT, Zu, Zz, tup, tyf, hm]
      refine hB [(0, v), (1, av), (2, lv), (3, Zx (s : Nat)), (4, Zx (fr : Nat)), (5, bv), (12, .slice none 0 0), (13, .bool true), (23, lv), (24, Zx o.length), (25, Zx (i : Nat))] _ _ ?_ (by simp (maxSteps := 2000000) only [↓Za, ↓Zm, ↓Zr, ↓Ze, ↓Zk, ↓Zs, ↓Zf, ↓Zi, ↓Zg, ↓Zc, ↓Zb, ↓vdn, vup, Zl, Zn, Zh, Zj, Zo, List.map_cons, List.map_nil, cond_true, cond_false, aop, Zv, Zq, Zp, ev, sput, Zt, Zy, Ya, unK, Zd, Zw, Nat.reduceBEq, Nat.reduceAdd, Int.reduceBEq, Int.reduceBNe, Int.reduceLT, Zu, Zz, tup, tyf])
      clear hB
      try clear B
      refine Yl ?_
      simp (maxSteps := 2000000) only [s82, ↓Za, ↓Zm, ↓Zr, ↓Ze, ↓Zk, ↓Zs, ↓Zf, ↓Zi, ↓Zg, ↓Zc, ↓Zb, ↓vdn, vup, Zl, Zn, Zh, Zj, Zo, List.map_cons, List.map_nil, cond_true, cond_false, aop, Zv, Zq, Zp, ev, sput, Zt, Zy, Ya, unK, Zd, Zw, Nat.reduceBEq, Nat.reduceAdd, Int.reduceBEq, Int.reduceBNe, Int.reduceLT, Zu, Zz, tup, tyf, add1 (show i < 9223372036854775807 by omega)]
      exact hQ2 _ _ _ ⟨i + 1, hi', by omega, by simp (maxSteps := 2000000) only [↓Za, ↓Zm, ↓Zr, ↓Ze, ↓Zk, ↓Zs, ↓Zf, ↓Zi, ↓Zg, ↓Zc, ↓Zb, ↓vdn, vup, Zl, Zn, Zh, Zj, Zo, List.map_cons, List.map_nil, cond_true, cond_false, aop, Zv, Zq, Zp, ev, sput, Zt, Zy, Ya, unK, Zd, Zw, Nat.reduceBEq, Nat.reduceAdd, Int.reduceBEq, Int.reduceBNe, Int.reduceLT, Zu, Zz, tup, tyf, hms2], rfl⟩
    | false =>
      rw [hm, Bool.false_or] at hms2
      simp (maxSteps := 2000000) only [s82, ↓Za, ↓Zm, ↓Zr, ↓Ze, ↓Zk, ↓Zs, ↓Zf, ↓Zi, ↓Zg, ↓Zc, ↓Zb, ↓vdn, vup, Zl, Zn, Zh, Zj, Zo, List.map_cons, List.map_nil, cond_true, cond_false, aop, Zv, Zq, Zp, ev, sput, Zt, Zy, Ya, unK, Zd, Zw, Nat.reduceBEq, Nat.reduceAdd, Int.reduceBEq, Int.reduceBNe, Int.reduceLT, Zu, Zz, tup, tyf, hm]
      refine hB [(0, v), (1, av), (2, lv), (3, Zx (s : Nat)), (4, Zx (fr : Nat)), (5, bv), (12, .slice none 0 0), (13, .bool (((lfM o pre i : Nat) : Int) != 0)), (23, lv), (24, Zx o.length), (25, Zx (i : Nat))] _ _ ?_ (by simp (maxSteps := 2000000) only [↓Za, ↓Zm, ↓Zr, ↓Ze, ↓Zk, ↓Zs, ↓Zf, ↓Zi, ↓Zg, ↓Zc, ↓Zb, ↓vdn, vup, Zl, Zn, Zh, Zj, Zo, List.map_cons, List.map_nil, cond_true, cond_false, aop, Zv, Zq, Zp, ev, sput, Zt, Zy, Ya, unK, Zd, Zw, Nat.reduceBEq, Nat.reduceAdd, Int.reduceBEq, Int.reduceBNe, Int.reduceLT, Zu, Zz, tup, tyf])
      clear hB
      try clear B
      refine Yl ?_
      simp (maxSteps := 2000000) only [s82, ↓Za, ↓Zm, ↓Zr, ↓Ze, ↓Zk, ↓Zs, ↓Zf, ↓Zi, ↓Zg, ↓Zc, ↓Zb, ↓vdn, vup, Zl, Zn, Zh, Zj, Zo, List.map_cons, List.map_nil, cond_true, cond_false, aop, Zv, Zq, Zp, ev, sput, Zt, Zy, Ya, unK, Zd, Zw, Nat.reduceBEq, Nat.reduceAdd, Int.reduceBEq, Int.reduceBNe, Int.reduceLT, Zu, Zz, tup, tyf, add1 (show i < 9223372036854775807 by omega)]
      exact hQ2 _ _ _ ⟨i + 1, hi', by omega, by simp (maxSteps := 2000000) only [↓Za, ↓Zm, ↓Zr, ↓Ze, ↓Zk, ↓Zs, ↓Zf, ↓Zi, ↓Zg, ↓Zc, ↓Zb, ↓vdn, vup, Zl, Zn, Zh, Zj, Zo, List.map_cons, List.map_nil, cond_true, cond_false, aop, Zv, Zq, Zp, ev, sput, Zt, Zy, Ya, unK, Zd, Zw, Nat.reduceBEq, Nat.reduceAdd, Int.reduceBEq, Int.reduceBNe, Int.reduceLT, Zu, Zz, tup, tyf, hms2], rfl⟩
  obtain rfl : i = o.length := by omega
  refine Yc fun N7 hN7 => ?_
  simp (maxSteps := 2000000) only [s82, ↓Za, ↓Zm, ↓Zr, ↓Ze, ↓Zk, ↓Zs, ↓Zf, ↓Zi, ↓Zg, ↓Zc, ↓Zb, ↓vdn, vup, Zl, Zn, Zh, Zj, Zo, List.map_cons, List.map_nil, cond_true, cond_false, aop, Zv, Zq, Zp, ev, sput, Zt, Zy, Ya, unK, Zd, Zw, Nat.reduceBEq, Nat.reduceAdd, Int.reduceBEq, Int.reduceBNe, Int.reduceLT, Zu, Zz, tup, tyf, hiin]
  refine hN7 [(0, v), (1, av), (2, lv), (3, Zx (s : Nat)), (4, Zx (fr : Nat)), (5, bv), (12, .slice none 0 0), (13, .bool (Xv o pre o.length)), (23, lv), (24, Zx o.length), (25, Zx o.length), (26, .bool false)] _ _ ?_ (by simp (maxSteps := 2000000) only [↓Za, ↓Zm, ↓Zr, ↓Ze, ↓Zk, ↓Zs, ↓Zf, ↓Zi, ↓Zg, ↓Zc, ↓Zb, ↓vdn, vup, Zl, Zn, Zh, Zj, Zo, List.map_cons, List.map_nil, cond_true, cond_false, aop, Zv, Zq, Zp, ev, sput, Zt, Zy, Ya, unK, Zd, Zw, Nat.reduceBEq, Nat.reduceAdd, Int.reduceBEq, Int.reduceBNe, Int.reduceLT, Zu, Zz, tup, tyf])
  clear hN7
  try clear N7
  refine Yc fun N8 hN8 => ?_
  simp (maxSteps := 2000000) only [s82, ↓Za, ↓Zm, ↓Zr, ↓Ze, ↓Zk, ↓Zs, ↓Zf, ↓Zi, ↓Zg, ↓Zc, ↓Zb, ↓vdn, vup, Zl, Zn, Zh, Zj, Zo, List.map_cons, List.map_nil, cond_true, cond_false, aop, Zv, Zq, Zp, ev, sput, Zt, Zy, Ya, unK, Zd, Zw, Nat.reduceBEq, Nat.reduceAdd, Int.reduceBEq, Int.reduceBNe, Int.reduceLT, Zu, Zz, tup, tyf]
  refine hQ2 _ _ _ (hQ _ _ _ ?_)
  simp (maxSteps := 2000000) only [s82, ↓Za, ↓Zm, ↓Zr, ↓Ze, ↓Zk, ↓Zs, ↓Zf, ↓Zi, ↓Zg, ↓Zc, ↓Zb, ↓vdn, vup, Zl, Zn, Zh, Zj, Zo, List.map_cons, List.map_nil, cond_true, cond_false, aop, Zv, Zq, Zp, ev, sput, Zt, Zy, Ya, unK, Zd, Zw, Nat.reduceBEq, Nat.reduceAdd, Int.reduceBEq, Int.reduceBNe, Int.reduceLT, Zu, Zz, tup, tyf, if_true]
  refine hZ [(0, v), (1, av), (2, lv), (3, Zx (s : Nat)), (4, Zx (fr : Nat)), (5, bv), (12, .slice none 0 0), (13, .bool (Xv o pre o.length))] _ _ ?_ (by simp (maxSteps := 2000000) only [↓Za, ↓Zm, ↓Zr, ↓Ze, ↓Zk, ↓Zs, ↓Zf, ↓Zi, ↓Zg, ↓Zc, ↓Zb, ↓vdn, vup, Zl, Zn, Zh, Zj, Zo, List.map_cons, List.map_nil, cond_true, cond_false, aop, Zv, Zq, Zp, ev, sput, Zt, Zy, Ya, unK, Zd, Zw, Nat.reduceBEq, Nat.reduceAdd, Int.reduceBEq, Int.reduceBNe, Int.reduceLT, Zu, Zz, tup, tyf])
  clear hZ
  try clear Z
  clear hQ hQ2
  rcases Nat.eq_zero_or_pos s with rfl | hs
  · have hsep := moreB_sep ho (h0 rfl) hk
    refine Yl ?_
    cases hm : Xv o pre o.length with
    | true =>
      rw [hm] at hsep
      simp (maxSteps := 2000000) only [s82, ↓Za, ↓Zm, ↓Zr, ↓Ze, ↓Zk, ↓Zs, ↓Zf, ↓Zi, ↓Zg, ↓Zc, ↓Zb, ↓vdn, vup, Zl, Zn, Zh, Zj, Zo, List.map_cons, List.map_nil, cond_true, cond_false, aop, Zv, Zq, Zp, ev, sput, Zt, Zy, Ya, unK, Zd, Zw, Nat.reduceBEq, Nat.reduceAdd, Int.reduceBEq, Int.reduceBNe, Int.reduceLT, Zu, Zz, tup, tyf, hm, Int.natCast_zero]
      exact ⟨Ext.refl _ _, by rw [srch, hsep]; rfl⟩
    | false =>
      rw [hm] at hsep
      simp (maxSteps := 2000000) only [s82, ↓Za, ↓Zm, ↓Zr, ↓Ze, ↓Zk, ↓Zs, ↓Zf, ↓Zi, ↓Zg, ↓Zc, ↓Zb, ↓vdn, vup, Zl, Zn, Zh, Zj, Zo, List.map_cons, List.map_nil, cond_true, cond_false, aop, Zv, Zq, Zp, ev, sput, Zt, Zy, Ya, unK, Zd, Zw, Nat.reduceBEq, Nat.reduceAdd, Int.reduceBEq, Int.reduceBNe, Int.reduceLT, Zu, Zz, tup, tyf, hm, Int.natCast_zero]
      exact ⟨Ext.refl _ _, by rw [srch, hsep]; exact hbv⟩
  have hs0 : (((s : Nat) : Int) == 0) = false := by rw [beq_eq_false_iff_ne]; omega
  obtain ⟨s', hs'⟩ : ∃ s', s = s' + 1 := ⟨s - 1, by omega⟩
  have hsub : subV .i64 ((s : Nat) : Int) 1 = ((s' : Nat) : Int) := by rw [subV_id (by omega) (by omega)]; omega
  refine Yh fun A hA => ?_
  refine Yc fun N9 hN9 => ?_
  simp (maxSteps := 2000000) only [s82, ↓Za, ↓Zm, ↓Zr, ↓Ze, ↓Zk, ↓Zs, ↓Zf, ↓Zi, ↓Zg, ↓Zc, ↓Zb, ↓vdn, vup, Zl, Zn, Zh, Zj, Zo, List.map_cons, List.map_nil, cond_true, cond_false, aop, Zv, Zq, Zp, ev, sput, Zt, Zy, Ya, unK, Zd, Zw, Nat.reduceBEq, Nat.reduceAdd, Int.reduceBEq, Int.reduceBNe, Int.reduceLT, Zu, Zz, tup, tyf, hs0]
  refine hN9 [(0, v), (1, av), (2, lv), (3, Zx (s : Nat)), (4, Zx (fr : Nat)), (5, bv), (12, .slice none 0 0), (13, .bool (Xv o pre o.length)), (36, .bool false)] _ _ ?_ (by simp (maxSteps := 2000000) only [↓Za, ↓Zm, ↓Zr, ↓Ze, ↓Zk, ↓Zs, ↓Zf, ↓Zi, ↓Zg, ↓Zc, ↓Zb, ↓vdn, vup, Zl, Zn, Zh, Zj, Zo, List.map_cons, List.map_nil, cond_true, cond_false, aop, Zv, Zq, Zp, ev, sput, Zt, Zy, Ya, unK, Zd, Zw, Nat.reduceBEq, Nat.reduceAdd, Int.reduceBEq, Int.reduceBNe, Int.reduceLT, Zu, Zz, tup, tyf])
  clear hN9
  try clear N9
  refine Xy rfl ?_
  refine Yl ?_
  simp (maxSteps := 2000000) only [s82, ↓Za, ↓Zm, ↓Zr, ↓Ze, ↓Zk, ↓Zs, ↓Zf, ↓Zi, ↓Zg, ↓Zc, ↓Zb, ↓vdn, vup, Zl, Zn, Zh, Zj, Zo, List.map_cons, List.map_nil, cond_true, cond_false, aop, Zv, Zq, Zp, ev, sput, Zt, Zy, Ya, unK, Zd, Zw, Nat.reduceBEq, Nat.reduceAdd, Int.reduceBEq, Int.reduceBNe, Int.reduceLT, Zu, Zz, tup, tyf]
  refine hA [(0, v), (1, av), (2, lv), (3, Zx (s : Nat)), (4, Zx (fr : Nat)), (5, bv), (12, .slice none 0 0), (13, .bool (Xv o pre o.length))] _ _ ?_ (by simp (maxSteps := 2000000) only [↓Za, ↓Zm, ↓Zr, ↓Ze, ↓Zk, ↓Zs, ↓Zf, ↓Zi, ↓Zg, ↓Zc, ↓Zb, ↓vdn, vup, Zl, Zn, Zh, Zj, Zo, List.map_cons, List.map_nil, cond_true, cond_false, aop, Zv, Zq, Zp, ev, sput, Zt, Zy, Ya, unK, Zd, Zw, Nat.reduceBEq, Nat.reduceAdd, Int.reduceBEq, Int.reduceBNe, Int.reduceLT, Zu, Zz, tup, tyf])
  clear hA
  try clear A
  refine Yh fun Z hZ => ?_
  refine Yc fun N10 hN10 => ?_
  simp (maxSteps := 2000000) only [s82, ↓Za, ↓Zm, ↓Zr, ↓Ze, ↓Zk, ↓Zs, ↓Zf, ↓Zi, ↓Zg, ↓Zc, ↓Zb, ↓vdn, vup, Zl, Zn, Zh, Zj, Zo, List.map_cons, List.map_nil, cond_true, cond_false, aop, Zv, Zq, Zp, ev, sput, Zt, Zy, Ya, unK, Zd, Zw, Nat.reduceBEq, Nat.reduceAdd, Int.reduceBEq, Int.reduceBNe, Int.reduceLT, Zu, Zz, tup, tyf]
  refine hN10 [(0, v), (1, av), (2, lv), (3, Zx (s : Nat)), (4, Zx (fr : Nat)), (5, bv), (12, .slice none 0 0), (13, .bool (Xv o pre o.length)), (16, Zx (fr : Nat))] _ _ ?_ (by simp (maxSteps := 2000000) only [↓Za, ↓Zm, ↓Zr, ↓Ze, ↓Zk, ↓Zs, ↓Zf, ↓Zi, ↓Zg, ↓Zc, ↓Zb, ↓vdn, vup, Zl, Zn, Zh, Zj, Zo, List.map_cons, List.map_nil, cond_true, cond_false, aop, Zv, Zq, Zp, ev, sput, Zt, Zy, Ya, unK, Zd, Zw, Nat.reduceBEq, Nat.reduceAdd, Int.reduceBEq, Int.reduceBNe, Int.reduceLT, Zu, Zz, tup, tyf])
  clear hN10
  try clear N10
  refine Yk ?_
  refine Yf fun Q hQ => ?_
  obtain ⟨ws, g1, g2⟩ := hav
  obtain ⟨bs, b1, b2⟩ := hbv
  have gl : ws.length = cn o := g2.len.trans (linesI_len o)
  have bl : bs.length = pre.length := b2.len.trans (lnL_len o pre)
  refine Xt (γ := Nat × Yb) (fun g => (fr ≤ g.1 ∧ g.1 ≤ cn o) ∧ (∀ j, fr ≤ j → j < g.1 → srch (sepB o) (cn o) 0 s' (j + 0) (pre ++ [j]) = none) ∧ Ext (fun _ => False) h g.2)
    (fun g => ([(0, v), (1, av), (2, lv), (3, Zx (s : Nat)), (4, Zx (fr : Nat)), (5, bv), (12, .slice none 0 0), (13, .bool (Xv o pre o.length)), (16, Zx (g.1 : Nat))], g.2)) (fun g => cn o - g.1) (fr, h) ⟨⟨Nat.le_refl _, hfr⟩, fun j h1 h2 => absurd h2 (Nat.not_lt.2 h1), Ext.refl _ _⟩ (by simp (maxSteps := 2000000) only [↓Za, ↓Zm, ↓Zr, ↓Ze, ↓Zk, ↓Zs, ↓Zf, ↓Zi, ↓Zg, ↓Zc, ↓Zb, ↓vdn, vup, Zl, Zn, Zh, Zj, Zo, List.map_cons, List.map_nil, cond_true, cond_false, aop, Zv, Zq, Zp, ev, sput, Zt, Zy, Ya, unK, Zd, Zw, Nat.reduceBEq, Nat.reduceAdd, Int.reduceBEq, Int.reduceBNe, Int.reduceLT, Zu, Zz, tup, tyf]) rfl ?_
  rintro ⟨k, H⟩ ⟨⟨hk1, hk2⟩, hno, hE⟩
  simp only at hk1 hk2 hno hE
  refine Yf fun Q2 hQ2 => ?_
  simp only [l82_3]
  have hlK : ∀ K : Value → Prop, lenK av K = K (Zx (cn o : Nat)) := fun K => by rw [g1.len, gl]
  by_cases hkin : (k : Int) < ((cn o : Nat) : Int)
  · have hk' : k < cn o := by omega
    have hkL : k < (linesI o).length := by rw [linesI_len]; exact hk'
    have hkW : k < ws.length := by omega
    have hlvH : IntSl H lv (tbL o (lfM o pre)) := Yt hlv hE
    have lf := Vb ho hk'
    have hll : (lin o k).length = o.length := by rw [lf.pm.length_eq, List.length_range]
    have hmem : ∀ x, x ∈ lin o k ↔ x < o.length := fun x => by rw [lf.pm.mem_iff, List.mem_range]
    have hgd : ∀ i, i < o.length → (lin o k).getD i 0 ∈ lin o k := fun i hi => by rw [getD_at (by omega)]; exact List.getElem_mem _
    obtain ⟨w, hwd⟩ : ∃ w, w = ws.getD k undef := ⟨_, rfl⟩
    have hw : OwnSl 3 h w (Wp (lin o k)) := by
      have := g2.get undef [] hkL
      rw [linesI_get o hk', ← hwd] at this; exact this
    have hld : ∀ {X : Yb} (hX : Ext (fun _ => False) h X) {K : Value → Prop}, Wb prog X 22 (elemP av 1 k) K = K w := fun {X} hX {K} => by rw [(g1.ext hX).load Xq hkW, hwd]
    have hix : ∀ {K : Value → Prop}, Yp prog 45 av (Zx (k : Nat)) K = K (elemP av 1 k) := fun {K} => g1.idx el_45 esz_22 hkW K
    have hne : tbL o (lfM o pre) ≠ [] := fun hc => by have := tbL_len o (lfM o pre); rw [hc] at this; simp at this; omega
    refine Yh fun A hA => ?_
    refine Yc fun N11 hN11 => ?_
    simp (maxSteps := 2000000) only [s82, ↓Za, ↓Zm, ↓Zr, ↓Ze, ↓Zk, ↓Zs, ↓Zf, ↓Zi, ↓Zg, ↓Zc, ↓Zb, ↓vdn, vup, Zl, Zn, Zh, Zj, Zo, List.map_cons, List.map_nil, cond_true, cond_false, aop, Zv, Zq, Zp, ev, sput, Zt, Zy, Ya, unK, Zd, Zw, Nat.reduceBEq, Nat.reduceAdd, Int.reduceBEq, Int.reduceBNe, Int.reduceLT, Zu, Zz, tup, tyf, hlK, hkin]
    refine hN11 [(0, v), (1, av), (2, lv), (3, Zx (s : Nat)), (4, Zx (fr : Nat)), (5, bv), (12, .slice none 0 0), (13, .bool (Xv o pre o.length)), (16, Zx (k : Nat)), (43, .bool true)] _ _ ?_ (by simp (maxSteps := 2000000) only [↓Za, ↓Zm, ↓Zr, ↓Ze, ↓Zk, ↓Zs, ↓Zf, ↓Zi, ↓Zg, ↓Zc, ↓Zb, ↓vdn, vup, Zl, Zn, Zh, Zj, Zo, List.map_cons, List.map_nil, cond_true, cond_false, aop, Zv, Zq, Zp, ev, sput, Zt, Zy, Ya, unK, Zd, Zw, Nat.reduceBEq, Nat.reduceAdd, Int.reduceBEq, Int.reduceBNe, Int.reduceLT, Zu, Zz, tup, tyf])
    clear hN11
    try clear N11
    refine Wu rfl ?_
    refine Yl ?_
    simp (maxSteps := 2000000) only [s82, ↓Za, ↓Zm, ↓Zr, ↓Ze, ↓Zk, ↓Zs, ↓Zf, ↓Zi, ↓Zg, ↓Zc, ↓Zb, ↓vdn, vup, Zl, Zn, Zh, Zj, Zo, List.map_cons, List.map_nil, cond_true, cond_false, aop, Zv, Zq, Zp, ev, sput, Zt, Zy, Ya, unK, Zd, Zw, Nat.reduceBEq, Nat.reduceAdd, Int.reduceBEq, Int.reduceBNe, Int.reduceLT, Zu, Zz, tup, tyf]
    refine hA [(0, v), (1, av), (2, lv), (3, Zx (s : Nat)), (4, Zx (fr : Nat)), (5, bv), (12, .slice none 0 0), (13, .bool (Xv o pre o.length)), (16, Zx (k : Nat))] _ _ ?_ (by simp (maxSteps := 2000000) only [↓Za, ↓Zm, ↓Zr, ↓Ze, ↓Zk, ↓Zs, ↓Zf, ↓Zi, ↓Zg, ↓Zc, ↓Zb, ↓vdn, vup, Zl, Zn, Zh, Zj, Zo, List.map_cons, List.map_nil, cond_true, cond_false, aop, Zv, Zq, Zp, ev, sput, Zt, Zy, Ya, unK, Zd, Zw, Nat.reduceBEq, Nat.reduceAdd, Int.reduceBEq, Int.reduceBNe, Int.reduceLT, Zu, Zz, tup, tyf])
    clear hA
    try clear A
    refine Yh fun B hB => ?_
    refine Yk ?_
    refine Yc fun N12 hN12 => ?_
    simp (maxSteps := 2000000) only [s82, ↓Za, ↓Zm, ↓Zr, ↓Ze, ↓Zk, ↓Zs, ↓Zf, ↓Zi, ↓Zg, ↓Zc, ↓Zb, ↓vdn, vup, Zl, Zn, Zh, Zj, Zo, List.map_cons, List.map_nil, cond_true, cond_false, aop, Zv, Zq, Zp, ev, sput, Zt, Zy, Ya, unK, Zd, Zw, Nat.reduceBEq, Nat.reduceAdd, Int.reduceBEq, Int.reduceBNe, Int.reduceLT, Zu, Zz, tup, tyf, lit0]
    refine (hlvH.grow [.ints [] 3 false]).copyOwn hne Vl (by rw [tbL_len]; omega) (Yv _ _) ?_
    obtain ⟨X, hXd⟩ : ∃ X : List Int → Yb, X = fun T => H ++ [Blk.ints [] 3 false] ++ [Blk.ints T 3 false] := ⟨_, rfl⟩
    obtain ⟨nb, hnb⟩ : ∃ nb, nb = (H ++ [Blk.ints [] 3 false]).length := ⟨_, rfl⟩
    have hX0 : H ++ [Blk.ints [] 3 false] ++ [Blk.ints (tbL o (lfM o pre)) 3 false] = X (tbL o (lst o pre (lin o k) 0 0)) := by
      rw [hXd, tbL_congr (g := lst o pre (lin o k) 0 0) fun x _ => (lst_zero o pre (lin o k) x).symm]
    obtain ⟨S, hS⟩ : ∃ S : Value, S = .slice (some ⟨nb, 0, some 0⟩) o.length o.length := ⟨_, rfl⟩
    simp only [tbL_len]
    rw [← hnb, ← hS, hX0]
    have x1 : ∀ T, (X T)[nb]? = some (.ints T 3 false) := fun T => by rw [hXd, hnb]; exact Yv _ _
    have xE : ∀ T, Ext (fun _ => False) H (X T) := fun T => by rw [hXd]; simp only [List.append_assoc]; exact Ext.app _ _ _
    have xset : ∀ T T', (X T).set nb (.ints T' 3 false) = X T' := fun T T' => by
      rw [hXd, hnb]; exact setEnd _ _ _
    have hidx : ∀ {x : Nat} {K : Value → Prop}, x < o.length → Yp prog 22 S (Zx (x : Nat)) K = K (.pointer (some ⟨nb, x, none⟩)) := fun {x K} hx => by rw [hS]; exact idxL Wk Xs hx
    refine hN12 [(0, v), (1, av), (2, lv), (3, Zx (s : Nat)), (4, Zx (fr : Nat)), (5, bv), (12, .slice none 0 0), (13, .bool (Xv o pre o.length)), (16, Zx (k : Nat)), (17, S)] _ _ ?_ (by simp (maxSteps := 2000000) only [↓Za, ↓Zm, ↓Zr, ↓Ze, ↓Zk, ↓Zs, ↓Zf, ↓Zi, ↓Zg, ↓Zc, ↓Zb, ↓vdn, vup, Zl, Zn, Zh, Zj, Zo, List.map_cons, List.map_nil, cond_true, cond_false, aop, Zv, Zq, Zp, ev, sput, Zt, Zy, Ya, unK, Zd, Zw, Nat.reduceBEq, Nat.reduceAdd, Int.reduceBEq, Int.reduceBNe, Int.reduceLT, Zu, Zz, tup, tyf])
    clear hN12
    try clear N12
    clear hX0 hXd hnb
    have hwX : ∀ T, IntSl (X T) w (Wp (lin o k)) := fun T => Yt hw.int (hE.trans (xE T))
    refine Yh fun C hC => ?_
    refine Yc fun N13 hN13 => ?_
    simp (maxSteps := 2000000) only [s82, ↓Za, ↓Zm, ↓Zr, ↓Ze, ↓Zk, ↓Zs, ↓Zf, ↓Zi, ↓Zg, ↓Zc, ↓Zb, ↓vdn, vup, Zl, Zn, Zh, Zj, Zo, List.map_cons, List.map_nil, cond_true, cond_false, aop, Zv, Zq, Zp, ev, sput, Zt, Zy, Ya, unK, Zd, Zw, Nat.reduceBEq, Nat.reduceAdd, Int.reduceBEq, Int.reduceBNe, Int.reduceLT, Zu, Zz, tup, tyf, hix, hld (hE.trans (xE _)), hw.int.len, Vc, hll]
    refine hN13 [(0, v), (1, av), (2, lv), (3, Zx (s : Nat)), (4, Zx (fr : Nat)), (5, bv), (12, .slice none 0 0), (13, .bool (Xv o pre o.length)), (16, Zx (k : Nat)), (17, S), (52, w), (53, Zx o.length), (54, .int .i64 0)] _ _ ?_ (by simp (maxSteps := 2000000) only [↓Za, ↓Zm, ↓Zr, ↓Ze, ↓Zk, ↓Zs, ↓Zf, ↓Zi, ↓Zg, ↓Zc, ↓Zb, ↓vdn, vup, Zl, Zn, Zh, Zj, Zo, List.map_cons, List.map_nil, cond_true, cond_false, aop, Zv, Zq, Zp, ev, sput, Zt, Zy, Ya, unK, Zd, Zw, Nat.reduceBEq, Nat.reduceAdd, Int.reduceBEq, Int.reduceBNe, Int.reduceLT, Zu, Zz, tup, tyf])
    clear hN13
    try clear N13
    refine Yk ?_
    refine Yf fun Q3 hQ3 => ?_
    refine Xt (γ := Nat) (fun i => i ≤ o.length) (fun i => ([(0, v), (1, av), (2, lv), (3, Zx (s : Nat)), (4, Zx (fr : Nat)), (5, bv), (12, .slice none 0 0), (13, .bool (Xv o pre o.length)), (16, Zx (k : Nat)), (17, S), (52, w), (53, Zx o.length), (54, Zx (i : Nat))], X (tbL o (lst o pre (lin o k) i 0)))) (fun i => o.length - i) 0 (Nat.zero_le _) (by simp (maxSteps := 2000000) only [↓Za, ↓Zm, ↓Zr, ↓Ze, ↓Zk, ↓Zs, ↓Zf, ↓Zi, ↓Zg, ↓Zc, ↓Zb, ↓vdn, vup, Zl, Zn, Zh, Zj, Zo, List.map_cons, List.map_nil, cond_true, cond_false, aop, Zv, Zq, Zp, ev, sput, Zt, Zy, Ya, unK, Zd, Zw, Nat.reduceBEq, Nat.reduceAdd, Int.reduceBEq, Int.reduceBNe, Int.reduceLT, Zu, Zz, tup, tyf, Int.natCast_zero]) rfl ?_
    rintro i hi
    refine Yf fun Q4 hQ4 => ?_
    simp only [l82_2]
    by_cases hiin : (i : Int) < o.length
    · have hi' : i < o.length := by omega
      have hic : i < (Wp (lin o k)).length := by rw [Vc]; omega
      obtain ⟨x, hx⟩ : ∃ x, (lin o k).getD i 0 = x := ⟨_, rfl⟩
      have hxl : x ∈ lin o k := hx ▸ hgd i hi'
      have hxn : x < o.length := (hmem x).1 hxl
      refine Yc fun N14 hN14 => ?_
      simp (maxSteps := 2000000) only [s82, ↓Za, ↓Zm, ↓Zr, ↓Ze, ↓Zk, ↓Zs, ↓Zf, ↓Zi, ↓Zg, ↓Zc, ↓Zb, ↓vdn, vup, Zl, Zn, Zh, Zj, Zo, List.map_cons, List.map_nil, cond_true, cond_false, aop, Zv, Zq, Zp, ev, sput, Zt, Zy, Ya, unK, Zd, Zw, Nat.reduceBEq, Nat.reduceAdd, Int.reduceBEq, Int.reduceBNe, Int.reduceLT, Zu, Zz, tup, tyf, hiin]
      refine hN14 [(0, v), (1, av), (2, lv), (3, Zx (s : Nat)), (4, Zx (fr : Nat)), (5, bv), (12, .slice none 0 0), (13, .bool (Xv o pre o.length)), (16, Zx (k : Nat)), (17, S), (52, w), (53, Zx o.length), (54, Zx (i : Nat)), (55, .bool true)] _ _ ?_ (by simp (maxSteps := 2000000) only [↓Za, ↓Zm, ↓Zr, ↓Ze, ↓Zk, ↓Zs, ↓Zf, ↓Zi, ↓Zg, ↓Zc, ↓Zb, ↓vdn, vup, Zl, Zn, Zh, Zj, Zo, List.map_cons, List.map_nil, cond_true, cond_false, aop, Zv, Zq, Zp, ev, sput, Zt, Zy, Ya, unK, Zd, Zw, Nat.reduceBEq, Nat.reduceAdd, Int.reduceBEq, Int.reduceBNe, Int.reduceLT, Zu, Zz, tup, tyf])
      clear hN14
      try clear N14
      refine Yc fun N15 hN15 => ?_
      simp (maxSteps := 2000000) only [s82, ↓Za, ↓Zm, ↓Zr, ↓Ze, ↓Zk, ↓Zs, ↓Zf, ↓Zi, ↓Zg, ↓Zc, ↓Zb, ↓vdn, vup, Zl, Zn, Zh, Zj, Zo, List.map_cons, List.map_nil, cond_true, cond_false, aop, Zv, Zq, Zp, ev, sput, Zt, Zy, Ya, unK, Zd, Zw, Nat.reduceBEq, Nat.reduceAdd, Int.reduceBEq, Int.reduceBNe, Int.reduceLT, Zu, Zz, tup, tyf]
      refine hN15 [(0, v), (1, av), (2, lv), (3, Zx (s : Nat)), (4, Zx (fr : Nat)), (5, bv), (12, .slice none 0 0), (13, .bool (Xv o pre o.length)), (16, Zx (k : Nat)), (17, S), (52, w), (53, Zx o.length), (54, Zx (i : Nat))] _ _ ?_ (by simp (maxSteps := 2000000) only [↓Za, ↓Zm, ↓Zr, ↓Ze, ↓Zk, ↓Zs, ↓Zf, ↓Zi, ↓Zg, ↓Zc, ↓Zb, ↓vdn, vup, Zl, Zn, Zh, Zj, Zo, List.map_cons, List.map_nil, cond_true, cond_false, aop, Zv, Zq, Zp, ev, sput, Zt, Zy, Ya, unK, Zd, Zw, Nat.reduceBEq, Nat.reduceAdd, Int.reduceBEq, Int.reduceBNe, Int.reduceLT, Zu, Zz, tup, tyf])
      clear hN15
      try clear N15
      refine Yh fun D hD => ?_
      refine Yk ?_
      refine Yc fun N16 hN16 => ?_
      simp (maxSteps := 2000000) only [s82, ↓Za, ↓Zm, ↓Zr, ↓Ze, ↓Zk, ↓Zs, ↓Zf, ↓Zi, ↓Zg, ↓Zc, ↓Zb, ↓vdn, vup, Zl, Zn, Zh, Zj, Zo, List.map_cons, List.map_nil, cond_true, cond_false, aop, Zv, Zq, Zp, ev, sput, Zt, Zy, Ya, unK, Zd, Zw, Nat.reduceBEq, Nat.reduceAdd, Int.reduceBEq, Int.reduceBNe, Int.reduceLT, Zu, Zz, tup, tyf, hw.int.idx Wk Xs hic, (hwX (tbL o (lst o pre (lin o k) i 0))).load Xb hic, castN_get, hx]
      refine hN16 [(0, v), (1, av), (2, lv), (3, Zx (s : Nat)), (4, Zx (fr : Nat)), (5, bv), (12, .slice none 0 0), (13, .bool (Xv o pre o.length)), (16, Zx (k : Nat)), (17, S), (18, Zx (i : Nat)), (19, Zx (x : Nat)), (52, w), (53, Zx o.length), (54, Zx (i : Nat))] _ _ ?_ (by simp (maxSteps := 2000000) only [↓Za, ↓Zm, ↓Zr, ↓Ze, ↓Zk, ↓Zs, ↓Zf, ↓Zi, ↓Zg, ↓Zc, ↓Zb, ↓vdn, vup, Zl, Zn, Zh, Zj, Zo, List.map_cons, List.map_nil, cond_true, cond_false, aop, Zv, Zq, Zp, ev, sput, Zt, Zy, Ya, unK, Zd, Zw, Nat.reduceBEq, Nat.reduceAdd, Int.reduceBEq, Int.reduceBNe, Int.reduceLT, Zu, Zz, tup, tyf])
      clear hN16
      try clear N16
      refine Yc fun N17 hN17 => ?_
      simp (maxSteps := 2000000) only [s82, ↓Za, ↓Zm, ↓Zr, ↓Ze, ↓Zk, ↓Zs, ↓Zf, ↓Zi, ↓Zg, ↓Zc, ↓Zb, ↓vdn, vup, Zl, Zn, Zh, Zj, Zo, List.map_cons, List.map_nil, cond_true, cond_false, aop, Zv, Zq, Zp, ev, sput, Zt, Zy, Ya, unK, Zd, Zw, Nat.reduceBEq, Nat.reduceAdd, Int.reduceBEq, Int.reduceBNe, Int.reduceLT, Zu, Zz, tup, tyf, hix, hld (hE.trans (xE _)), Option.map_some, Option.map_none]
      refine hw.int.pre Wk Xs (Nat.le_of_lt hic) fun u hu => ?_
      have hul : ∀ K : Value → Prop, lenK u K = K (Zx (i : Nat)) := fun K => by rw [hu.len, List.length_take, Nat.min_eq_left (Nat.le_of_lt hic)]
      simp (maxSteps := 2000000) only [s82, ↓Za, ↓Zm, ↓Zr, ↓Ze, ↓Zk, ↓Zs, ↓Zf, ↓Zi, ↓Zg, ↓Zc, ↓Zb, ↓vdn, vup, Zl, Zn, Zh, Zj, Zo, List.map_cons, List.map_nil, cond_true, cond_false, aop, Zv, Zq, Zp, ev, sput, Zt, Zy, Ya, unK, Zd, Zw, Nat.reduceBEq, Nat.reduceAdd, Int.reduceBEq, Int.reduceBNe, Int.reduceLT, Zu, Zz, tup, tyf, hul]
      refine hN17 [(0, v), (1, av), (2, lv), (3, Zx (s : Nat)), (4, Zx (fr : Nat)), (5, bv), (12, .slice none 0 0), (13, .bool (Xv o pre o.length)), (16, Zx (k : Nat)), (17, S), (18, Zx (i : Nat)), (19, Zx (x : Nat)), (52, w), (53, Zx o.length), (54, Zx (i : Nat)), (64, u), (65, Zx (i : Nat)), (66, .int .i64 0)] _ _ ?_ (by simp (maxSteps := 2000000) only [↓Za, ↓Zm, ↓Zr, ↓Ze, ↓Zk, ↓Zs, ↓Zf, ↓Zi, ↓Zg, ↓Zc, ↓Zb, ↓vdn, vup, Zl, Zn, Zh, Zj, Zo, List.map_cons, List.map_nil, cond_true, cond_false, aop, Zv, Zq, Zp, ev, sput, Zt, Zy, Ya, unK, Zd, Zw, Nat.reduceBEq, Nat.reduceAdd, Int.reduceBEq, Int.reduceBNe, Int.reduceLT, Zu, Zz, tup, tyf])
      clear hN17
      try clear N17
      have huX : ∀ T, IntSl (X T) u ((Wp (lin o k)).take i) := fun T => Yt hu (hE.trans (xE T))
      refine Yk ?_
      refine Yf fun Q5 hQ5 => ?_
      refine Xt (γ := Nat) (fun m => m ≤ i) (fun m => ([(0, v), (1, av), (2, lv), (3, Zx (s : Nat)), (4, Zx (fr : Nat)), (5, bv), (12, .slice none 0 0), (13, .bool (Xv o pre o.length)), (16, Zx (k : Nat)), (17, S), (18, Zx (i : Nat)), (19, Zx (x : Nat)), (52, w), (53, Zx o.length), (54, Zx (i : Nat)), (64, u), (65, Zx (i : Nat)), (66, Zx (m : Nat))], X (tbL o (lst o pre (lin o k) i m)))) (fun m => i - m) 0 (Nat.zero_le _) (by simp (maxSteps := 2000000) only [↓Za, ↓Zm, ↓Zr, ↓Ze, ↓Zk, ↓Zs, ↓Zf, ↓Zi, ↓Zg, ↓Zc, ↓Zb, ↓vdn, vup, Zl, Zn, Zh, Zj, Zo, List.map_cons, List.map_nil, cond_true, cond_false, aop, Zv, Zq, Zp, ev, sput, Zt, Zy, Ya, unK, Zd, Zw, Nat.reduceBEq, Nat.reduceAdd, Int.reduceBEq, Int.reduceBNe, Int.reduceLT, Zu, Zz, tup, tyf, Int.natCast_zero]) rfl ?_
      rintro m hm
      refine Yf fun Q6 hQ6 => ?_
      simp only [l82_1]
      by_cases hmin : (m : Int) < i
      · have hm' : m < i := by omega
        obtain ⟨y, hy⟩ : ∃ y, (lin o k).getD m 0 = y := ⟨_, rfl⟩
        have hyn : y < o.length := (hmem y).1 (hy ▸ hgd m (by omega))
        have hmT : m < ((Wp (lin o k)).take i).length := by rw [List.length_take, Vc]; omega
        have hyg : ((Wp (lin o k)).take i).getD m 0 = ((y : Nat) : Int) := by
          rw [← hy, ← castN_get, List.getD, List.getD, List.getElem?_take_of_lt hm']
        have hxT : x < (tbL o (lst o pre (lin o k) i m)).length := by rw [tbL_len]; exact hxn
        have hset : (tbL o (lst o pre (lin o k) i m)).set x ((Wj (lst o pre (lin o k) i m x) (2 ^ y) : Nat) : Int) = tbL o (lst o pre (lin o k) i (m + 1)) := tbL_set fun j hj => by
          rw [lst_set lf.nd (by omega) (by omega) ((hmem j).2 hj), hx, hy]
          by_cases hjx : j = x
          · rw [if_pos hjx, if_pos hjx, hjx]
          · rw [if_neg hjx, if_neg hjx]
        have hand : Wm .andNot .i64 ((lst o pre (lin o k) i m x : Nat) : Int) (2 ^ y) = ((Wj (lst o pre (lin o k) i m x) (2 ^ y) : Nat) : Int) := by
          have h1 := lst_lt o pre (lin o k) i m x
          have h2 : (2 : Nat) ^ y ≤ 2 ^ 6 := Nat.pow_le_pow_right (by decide) (by omega)
          have := Wz (a := lst o pre (lin o k) i m x) (b := 2 ^ y) (by omega) (by omega)
          rw [Wt] at this; exact this
        refine Yc fun N18 hN18 => ?_
        simp (maxSteps := 2000000) only [s82, ↓Za, ↓Zm, ↓Zr, ↓Ze, ↓Zk, ↓Zs, ↓Zf, ↓Zi, ↓Zg, ↓Zc, ↓Zb, ↓vdn, vup, Zl, Zn, Zh, Zj, Zo, List.map_cons, List.map_nil, cond_true, cond_false, aop, Zv, Zq, Zp, ev, sput, Zt, Zy, Ya, unK, Zd, Zw, Nat.reduceBEq, Nat.reduceAdd, Int.reduceBEq, Int.reduceBNe, Int.reduceLT, Zu, Zz, tup, tyf, hmin]
        refine hN18 [(0, v), (1, av), (2, lv), (3, Zx (s : Nat)), (4, Zx (fr : Nat)), (5, bv), (12, .slice none 0 0), (13, .bool (Xv o pre o.length)), (16, Zx (k : Nat)), (17, S), (18, Zx (i : Nat)), (19, Zx (x : Nat)), (52, w), (53, Zx o.length), (54, Zx (i : Nat)), (64, u), (65, Zx (i : Nat)), (66, Zx (m : Nat)), (67, .bool true)] _ _ ?_ (by simp (maxSteps := 2000000) only [↓Za, ↓Zm, ↓Zr, ↓Ze, ↓Zk, ↓Zs, ↓Zf, ↓Zi, ↓Zg, ↓Zc, ↓Zb, ↓vdn, vup, Zl, Zn, Zh, Zj, Zo, List.map_cons, List.map_nil, cond_true, cond_false, aop, Zv, Zq, Zp, ev, sput, Zt, Zy, Ya, unK, Zd, Zw, Nat.reduceBEq, Nat.reduceAdd, Int.reduceBEq, Int.reduceBNe, Int.reduceLT, Zu, Zz, tup, tyf])
        clear hN18
        try clear N18
        refine Yc fun N19 hN19 => ?_
        simp (maxSteps := 2000000) only [s82, ↓Za, ↓Zm, ↓Zr, ↓Ze, ↓Zk, ↓Zs, ↓Zf, ↓Zi, ↓Zg, ↓Zc, ↓Zb, ↓vdn, vup, Zl, Zn, Zh, Zj, Zo, List.map_cons, List.map_nil, cond_true, cond_false, aop, Zv, Zq, Zp, ev, sput, Zt, Zy, Ya, unK, Zd, Zw, Nat.reduceBEq, Nat.reduceAdd, Int.reduceBEq, Int.reduceBNe, Int.reduceLT, Zu, Zz, tup, tyf]
        refine hN19 [(0, v), (1, av), (2, lv), (3, Zx (s : Nat)), (4, Zx (fr : Nat)), (5, bv), (12, .slice none 0 0), (13, .bool (Xv o pre o.length)), (16, Zx (k : Nat)), (17, S), (18, Zx (i : Nat)), (19, Zx (x : Nat)), (52, w), (53, Zx o.length), (54, Zx (i : Nat)), (64, u), (65, Zx (i : Nat)), (66, Zx (m : Nat))] _ _ ?_ (by simp (maxSteps := 2000000) only [↓Za, ↓Zm, ↓Zr, ↓Ze, ↓Zk, ↓Zs, ↓Zf, ↓Zi, ↓Zg, ↓Zc, ↓Zb, ↓vdn, vup, Zl, Zn, Zh, Zj, Zo, List.map_cons, List.map_nil, cond_true, cond_false, aop, Zv, Zq, Zp, ev, sput, Zt, Zy, Ya, unK, Zd, Zw, Nat.reduceBEq, Nat.reduceAdd, Int.reduceBEq, Int.reduceBNe, Int.reduceLT, Zu, Zz, tup, tyf])
        clear hN19
        try clear N19
        refine Yh fun F hF => ?_
        refine Yk ?_
        refine Yc fun N20 hN20 => ?_
        simp (maxSteps := 2000000) only [s82, ↓Za, ↓Zm, ↓Zr, ↓Ze, ↓Zk, ↓Zs, ↓Zf, ↓Zi, ↓Zg, ↓Zc, ↓Zb, ↓vdn, vup, Zl, Zn, Zh, Zj, Zo, List.map_cons, List.map_nil, cond_true, cond_false, aop, Zv, Zq, Zp, ev, sput, Zt, Zy, Ya, unK, Zd, Zw, Nat.reduceBEq, Nat.reduceAdd, Int.reduceBEq, Int.reduceBNe, Int.reduceLT, Zu, Zz, tup, tyf, hu.idx Wk Xs hmT, (huX (tbL o (lst o pre (lin o k) i m))).load Xb hmT, hyg]
        refine hN20 [(0, v), (1, av), (2, lv), (3, Zx (s : Nat)), (4, Zx (fr : Nat)), (5, bv), (12, .slice none 0 0), (13, .bool (Xv o pre o.length)), (16, Zx (k : Nat)), (17, S), (18, Zx (i : Nat)), (19, Zx (x : Nat)), (21, Zx (y : Nat)), (52, w), (53, Zx o.length), (54, Zx (i : Nat)), (64, u), (65, Zx (i : Nat)), (66, Zx (m : Nat))] _ _ ?_ (by simp (maxSteps := 2000000) only [↓Za, ↓Zm, ↓Zr, ↓Ze, ↓Zk, ↓Zs, ↓Zf, ↓Zi, ↓Zg, ↓Zc, ↓Zb, ↓vdn, vup, Zl, Zn, Zh, Zj, Zo, List.map_cons, List.map_nil, cond_true, cond_false, aop, Zv, Zq, Zp, ev, sput, Zt, Zy, Ya, unK, Zd, Zw, Nat.reduceBEq, Nat.reduceAdd, Int.reduceBEq, Int.reduceBNe, Int.reduceLT, Zu, Zz, tup, tyf])
        clear hN20
        try clear N20
        refine Yl ?_
        simp only [q82_21]
        refine Xx [] (by kernel_rfl) (by kernel_rfl) (by kernel_rfl) (by kernel_rfl) ?_
        simp (maxSteps := 2000000) only [s82, ↓Za, ↓Zm, ↓Zr, ↓Ze, ↓Zk, ↓Zs, ↓Zf, ↓Zi, ↓Zg, ↓Zc, ↓Zb, ↓vdn, vup, Zl, Zn, Zh, Zj, Zo, List.map_cons, List.map_nil, cond_true, cond_false, aop, Zv, Zq, Zp, ev, sput, Zt, Zy, Ya, unK, Zd, Zw, Nat.reduceBEq, Nat.reduceAdd, Int.reduceBEq, Int.reduceBNe, Int.reduceLT, Zu, Zz, tup, tyf, hidx hxn, loadX (x1 (tbL o (lst o pre (lin o k) i m))) Xb hxT, tbL_get hxn, shl1 (show y ≤ 62 by omega), hand, storeX (x1 (tbL o (lst o pre (lin o k) i m))) Xb hxT, hset, xset]
        refine hF [(0, v), (1, av), (2, lv), (3, Zx (s : Nat)), (4, Zx (fr : Nat)), (5, bv), (12, .slice none 0 0), (13, .bool (Xv o pre o.length)), (16, Zx (k : Nat)), (17, S), (18, Zx (i : Nat)), (19, Zx (x : Nat)), (52, w), (53, Zx o.length), (54, Zx (i : Nat)), (64, u), (65, Zx (i : Nat)), (66, Zx (m : Nat))] _ _ ?_ (by simp (maxSteps := 2000000) only [↓Za, ↓Zm, ↓Zr, ↓Ze, ↓Zk, ↓Zs, ↓Zf, ↓Zi, ↓Zg, ↓Zc, ↓Zb, ↓vdn, vup, Zl, Zn, Zh, Zj, Zo, List.map_cons, List.map_nil, cond_true, cond_false, aop, Zv, Zq, Zp, ev, sput, Zt, Zy, Ya, unK, Zd, Zw, Nat.reduceBEq, Nat.reduceAdd, Int.reduceBEq, Int.reduceBNe, Int.reduceLT, Zu, Zz, tup, tyf])
        clear hF
        try clear F
        refine Yl ?_
        simp (maxSteps := 2000000) only [s82, ↓Za, ↓Zm, ↓Zr, ↓Ze, ↓Zk, ↓Zs, ↓Zf, ↓Zi, ↓Zg, ↓Zc, ↓Zb, ↓vdn, vup, Zl, Zn, Zh, Zj, Zo, List.map_cons, List.map_nil, cond_true, cond_false, aop, Zv, Zq, Zp, ev, sput, Zt, Zy, Ya, unK, Zd, Zw, Nat.reduceBEq, Nat.reduceAdd, Int.reduceBEq, Int.reduceBNe, Int.reduceLT, Zu, Zz, tup, tyf, add1 (show m < 9223372036854775807 by omega)]
        exact hQ6 _ _ _ ⟨m + 1, hm', by omega, by simp (maxSteps := 2000000) only [↓Za, ↓Zm, ↓Zr, ↓Ze, ↓Zk, ↓Zs, ↓Zf, ↓Zi, ↓Zg, ↓Zc, ↓Zb, ↓vdn, vup, Zl, Zn, Zh, Zj, Zo, List.map_cons, List.map_nil, cond_true, cond_false, aop, Zv, Zq, Zp, ev, sput, Zt, Zy, Ya, unK, Zd, Zw, Nat.reduceBEq, Nat.reduceAdd, Int.reduceBEq, Int.reduceBNe, Int.reduceLT, Zu, Zz, tup, tyf], rfl⟩
      obtain rfl : i = m := by omega
      refine Yc fun N21 hN21 => ?_
      simp (maxSteps := 2000000) only [s82, ↓Za, ↓Zm, ↓Zr, ↓Ze, ↓Zk, ↓Zs, ↓Zf, ↓Zi, ↓Zg, ↓Zc, ↓Zb, ↓vdn, vup, Zl, Zn, Zh, Zj, Zo, List.map_cons, List.map_nil, cond_true, cond_false, aop, Zv, Zq, Zp, ev, sput, Zt, Zy, Ya, unK, Zd, Zw, Nat.reduceBEq, Nat.reduceAdd, Int.reduceBEq, Int.reduceBNe, Int.reduceLT, Zu, Zz, tup, tyf, hmin]
      refine hN21 [(0, v), (1, av), (2, lv), (3, Zx (s : Nat)), (4, Zx (fr : Nat)), (5, bv), (12, .slice none 0 0), (13, .bool (Xv o pre o.length)), (16, Zx (k : Nat)), (17, S), (18, Zx (i : Nat)), (19, Zx (x : Nat)), (52, w), (53, Zx o.length), (54, Zx (i : Nat)), (64, u), (65, Zx (i : Nat)), (66, Zx (i : Nat)), (67, .bool false)] _ _ ?_ (by simp (maxSteps := 2000000) only [↓Za, ↓Zm, ↓Zr, ↓Ze, ↓Zk, ↓Zs, ↓Zf, ↓Zi, ↓Zg, ↓Zc, ↓Zb, ↓vdn, vup, Zl, Zn, Zh, Zj, Zo, List.map_cons, List.map_nil, cond_true, cond_false, aop, Zv, Zq, Zp, ev, sput, Zt, Zy, Ya, unK, Zd, Zw, Nat.reduceBEq, Nat.reduceAdd, Int.reduceBEq, Int.reduceBNe, Int.reduceLT, Zu, Zz, tup, tyf])
      clear hN21
      try clear N21
      refine Yc fun N22 hN22 => ?_
      simp (maxSteps := 2000000) only [s82, ↓Za, ↓Zm, ↓Zr, ↓Ze, ↓Zk, ↓Zs, ↓Zf, ↓Zi, ↓Zg, ↓Zc, ↓Zb, ↓vdn, vup, Zl, Zn, Zh, Zj, Zo, List.map_cons, List.map_nil, cond_true, cond_false, aop, Zv, Zq, Zp, ev, sput, Zt, Zy, Ya, unK, Zd, Zw, Nat.reduceBEq, Nat.reduceAdd, Int.reduceBEq, Int.reduceBNe, Int.reduceLT, Zu, Zz, tup, tyf]
      refine hQ6 _ _ _ (hQ5 _ _ _ ?_)
      simp (maxSteps := 2000000) only [s82, ↓Za, ↓Zm, ↓Zr, ↓Ze, ↓Zk, ↓Zs, ↓Zf, ↓Zi, ↓Zg, ↓Zc, ↓Zb, ↓vdn, vup, Zl, Zn, Zh, Zj, Zo, List.map_cons, List.map_nil, cond_true, cond_false, aop, Zv, Zq, Zp, ev, sput, Zt, Zy, Ya, unK, Zd, Zw, Nat.reduceBEq, Nat.reduceAdd, Int.reduceBEq, Int.reduceBNe, Int.reduceLT, Zu, Zz, tup, tyf, if_true]
      rw [tbL_congr (f := lst o pre (lin o k) i i) (g := lst o pre (lin o k) (i + 1) 0) fun x _ => lst_next o pre (lin o k) i x]
      refine hD [(0, v), (1, av), (2, lv), (3, Zx (s : Nat)), (4, Zx (fr : Nat)), (5, bv), (12, .slice none 0 0), (13, .bool (Xv o pre o.length)), (16, Zx (k : Nat)), (17, S), (52, w), (53, Zx o.length), (54, Zx (i : Nat))] _ _ ?_ (by simp (maxSteps := 2000000) only [↓Za, ↓Zm, ↓Zr, ↓Ze, ↓Zk, ↓Zs, ↓Zf, ↓Zi, ↓Zg, ↓Zc, ↓Zb, ↓vdn, vup, Zl, Zn, Zh, Zj, Zo, List.map_cons, List.map_nil, cond_true, cond_false, aop, Zv, Zq, Zp, ev, sput, Zt, Zy, Ya, unK, Zd, Zw, Nat.reduceBEq, Nat.reduceAdd, Int.reduceBEq, Int.reduceBNe, Int.reduceLT, Zu, Zz, tup, tyf])
      clear hD
      try clear D
      refine Yl ?_
      simp (maxSteps := 2000000) only [s82, ↓Za, ↓Zm, ↓Zr, ↓Ze, ↓Zk, ↓Zs, ↓Zf, ↓Zi, ↓Zg, ↓Zc, ↓Zb, ↓vdn, vup, Zl, Zn, Zh, Zj, Zo, List.map_cons, List.map_nil, cond_true, cond_false, aop, Zv, Zq, Zp, ev, sput, Zt, Zy, Ya, unK, Zd, Zw, Nat.reduceBEq, Nat.reduceAdd, Int.reduceBEq, Int.reduceBNe, Int.reduceLT, Zu, Zz, tup, tyf, add1 (show i < 9223372036854775807 by omega)]
      exact hQ4 _ _ _ ⟨i + 1, hi', by omega, by simp (maxSteps := 2000000) only [↓Za, ↓Zm, ↓Zr, ↓Ze, ↓Zk, ↓Zs, ↓Zf, ↓Zi, ↓Zg, ↓Zc, ↓Zb, ↓vdn, vup, Zl, Zn, Zh, Zj, Zo, List.map_cons, List.map_nil, cond_true, cond_false, aop, Zv, Zq, Zp, ev, sput, Zt, Zy, Ya, unK, Zd, Zw, Nat.reduceBEq, Nat.reduceAdd, Int.reduceBEq, Int.reduceBNe, Int.reduceLT, Zu, Zz, tup, tyf], rfl⟩
    obtain rfl : i = o.length := by omega
    refine Yc fun N23 hN23 => ?_
    simp (maxSteps := 2000000) only [s82, ↓Za, ↓Zm, ↓Zr, ↓Ze, ↓Zk, ↓Zs, ↓Zf, ↓Zi, ↓Zg, ↓Zc, ↓Zb, ↓vdn, vup, Zl, Zn, Zh, Zj, Zo, List.map_cons, List.map_nil, cond_true, cond_false, aop, Zv, Zq, Zp, ev, sput, Zt, Zy, Ya, unK, Zd, Zw, Nat.reduceBEq, Nat.reduceAdd, Int.reduceBEq, Int.reduceBNe, Int.reduceLT, Zu, Zz, tup, tyf, hiin]
    refine hN23 [(0, v), (1, av), (2, lv), (3, Zx (s : Nat)), (4, Zx (fr : Nat)), (5, bv), (12, .slice none 0 0), (13, .bool (Xv o pre o.length)), (16, Zx (k : Nat)), (17, S), (52, w), (53, Zx o.length), (54, Zx o.length), (55, .bool false)] _ _ ?_ (by simp (maxSteps := 2000000) only [↓Za, ↓Zm, ↓Zr, ↓Ze, ↓Zk, ↓Zs, ↓Zf, ↓Zi, ↓Zg, ↓Zc, ↓Zb, ↓vdn, vup, Zl, Zn, Zh, Zj, Zo, List.map_cons, List.map_nil, cond_true, cond_false, aop, Zv, Zq, Zp, ev, sput, Zt, Zy, Ya, unK, Zd, Zw, Nat.reduceBEq, Nat.reduceAdd, Int.reduceBEq, Int.reduceBNe, Int.reduceLT, Zu, Zz, tup, tyf])
    clear hN23
    try clear N23
    refine Yc fun N24 hN24 => ?_
    simp (maxSteps := 2000000) only [s82, ↓Za, ↓Zm, ↓Zr, ↓Ze, ↓Zk, ↓Zs, ↓Zf, ↓Zi, ↓Zg, ↓Zc, ↓Zb, ↓vdn, vup, Zl, Zn, Zh, Zj, Zo, List.map_cons, List.map_nil, cond_true, cond_false, aop, Zv, Zq, Zp, ev, sput, Zt, Zy, Ya, unK, Zd, Zw, Nat.reduceBEq, Nat.reduceAdd, Int.reduceBEq, Int.reduceBNe, Int.reduceLT, Zu, Zz, tup, tyf]
    refine hQ4 _ _ _ (hQ3 _ _ _ ?_)
    simp (maxSteps := 2000000) only [s82, ↓Za, ↓Zm, ↓Zr, ↓Ze, ↓Zk, ↓Zs, ↓Zf, ↓Zi, ↓Zg, ↓Zc, ↓Zb, ↓vdn, vup, Zl, Zn, Zh, Zj, Zo, List.map_cons, List.map_nil, cond_true, cond_false, aop, Zv, Zq, Zp, ev, sput, Zt, Zy, Ya, unK, Zd, Zw, Nat.reduceBEq, Nat.reduceAdd, Int.reduceBEq, Int.reduceBNe, Int.reduceLT, Zu, Zz, tup, tyf, if_true]
    rw [tbL_congr (f := lst o pre (lin o k) o.length 0) (g := lfM o (pre ++ [k])) fun x hx => by
      rw [← hll]; exact lst_all (List.idxOf_lt_length_of_mem ((hmem x).2 hx))]
    refine hC [(0, v), (1, av), (2, lv), (3, Zx (s : Nat)), (4, Zx (fr : Nat)), (5, bv), (12, .slice none 0 0), (13, .bool (Xv o pre o.length)), (16, Zx (k : Nat)), (17, S)] _ _ ?_ (by simp (maxSteps := 2000000) only [↓Za, ↓Zm, ↓Zr, ↓Ze, ↓Zk, ↓Zs, ↓Zf, ↓Zi, ↓Zg, ↓Zc, ↓Zb, ↓vdn, vup, Zl, Zn, Zh, Zj, Zo, List.map_cons, List.map_nil, cond_true, cond_false, aop, Zv, Zq, Zp, ev, sput, Zt, Zy, Ya, unK, Zd, Zw, Nat.reduceBEq, Nat.reduceAdd, Int.reduceBEq, Int.reduceBNe, Int.reduceLT, Zu, Zz, tup, tyf])
    clear hC
    try clear C
    clear hQ3 hQ4
    obtain ⟨G, hG⟩ : ∃ G, G = X (tbL o (lfM o (pre ++ [k]))) := ⟨_, rfl⟩
    have hEG : Ext (fun _ => False) h G := by rw [hG]; exact hE.trans (xE _)
    have hnx : G[nb]? = some (.ints (tbL o (lfM o (pre ++ [k]))) 3 false) := by rw [hG]; exact x1 _
    have hEHG : Ext (fun _ => False) H G := by rw [hG]; exact xE _
    rw [← hG]
    clear hG xset x1 xE hwX
    have hwG : OwnSl 3 G w (Wp (lin o k)) := hw.ext (S := fun _ => False) hEG fun _ _ => id
    have hSG : IntSl G S (tbL o (lfM o (pre ++ [k]))) := by
      have h1 : OwnSl 3 G S (tbL o (lfM o (pre ++ [k]))) := .inr ⟨nb, [], by rw [hS, tbL_len]; simp, by rw [hnx]; simp⟩
      exact h1.int
    refine Yc fun N25 hN25 => ?_
    refine Xx [(18, 4)] (by kernel_rfl) (by kernel_rfl) (by kernel_rfl) (by kernel_rfl) ?_
    simp (maxSteps := 2000000) only [s82, ↓Za, ↓Zm, ↓Zr, ↓Ze, ↓Zk, ↓Zs, ↓Zf, ↓Zi, ↓Zg, ↓Zc, ↓Zb, ↓vdn, vup, Zl, Zn, Zh, Zj, Zo, List.map_cons, List.map_nil, cond_true, cond_false, aop, Zv, Zq, Zp, ev, sput, Zt, Zy, Ya, unK, Zd, Zw, Nat.reduceBEq, Nat.reduceAdd, Int.reduceBEq, Int.reduceBNe, Int.reduceLT, Zu, Zz, tup, tyf, hsub, b1.val.len, Option.map_some, Option.map_none]
    refine b1.cap el_45 esz_22 fun cv hcv => ?_
    simp (maxSteps := 2000000) only [s82, ↓Za, ↓Zm, ↓Zr, ↓Ze, ↓Zk, ↓Zs, ↓Zf, ↓Zi, ↓Zg, ↓Zc, ↓Zb, ↓vdn, vup, Zl, Zn, Zh, Zj, Zo, List.map_cons, List.map_nil, cond_true, cond_false, aop, Zv, Zq, Zp, ev, sput, Zt, Zy, Ya, unK, Zd, Zw, Nat.reduceBEq, Nat.reduceAdd, Int.reduceBEq, Int.reduceBNe, Int.reduceLT, Zu, Zz, tup, tyf, hix, hld hEG, List.toList_toArray, buildSl1 el_45 zero_22 esz_22 hwG]
    have hval : ValSl (G ++ [Blk.cells [w] 22 false]) (.slice (some ⟨G.length, 0, none⟩) 1 1) [w] := .inr ⟨G.length, 0, none, 1, [w], 22, false, rfl, Nat.le_refl _, by simp [view, Blk.view], rfl⟩
    have hbb : Each (OwnSl 3 h) (bs ++ [w]) (lnL o (pre ++ [k])) := by
      rw [lnL, List.map_append]; exact b2.app ⟨hw, trivial⟩
    have hE1 : Ext (fun _ => False) G (G ++ [Blk.cells [w] 22 false]) := Ext.app _ _ _
    refine (hcv.ext (hEG.trans hE1)).app app_45_45 hval (by simp) (fun y hy => by obtain ⟨l, hl⟩ := hbb.mem y hy; exact hl.notI) (by simp only [List.length_singleton]; omega) fun nv hnv => ?_
    obtain ⟨G2, hG2⟩ : ∃ G2, G2 = G ++ [Blk.cells [w] 22 false] ++ [Blk.cells (bs ++ [w]) 22 false] := ⟨_, rfl⟩
    rw [← hG2] at hnv ⊢
    have hE2 : Ext (fun _ => False) G G2 := by rw [hG2]; simp only [List.append_assoc]; exact Ext.app _ _ _
    clear hG2
    have hnvL : OwnL 22 3 G2 nv (lnL o (pre ++ [k])) := ⟨_, hnv, hbb.imp fun w l hw => hw.ext (S := fun _ => False) (hEG.trans hE2) fun _ _ => id⟩
    simp (maxSteps := 2000000) only [s82, ↓Za, ↓Zm, ↓Zr, ↓Ze, ↓Zk, ↓Zs, ↓Zf, ↓Zi, ↓Zg, ↓Zc, ↓Zb, ↓vdn, vup, Zl, Zn, Zh, Zj, Zo, List.map_cons, List.map_nil, cond_true, cond_false, aop, Zv, Zq, Zp, ev, sput, Zt, Zy, Ya, unK, Zd, Zw, Nat.reduceBEq, Nat.reduceAdd, Int.reduceBEq, Int.reduceBNe, Int.reduceLT, Zu, Zz, tup, tyf, Xf, List.nil_append, List.append_nil, List.toList_toArray, List.cons_append]
    refine (ih s' (by omega) k (pre ++ [k]) G2 S nv (fun _ => by simp) (by rw [List.length_append, List.length_singleton]; omega) (fun j hj => by
      rcases List.mem_append.1 hj with hj | hj
      · exact hk j hj
      · rw [List.mem_singleton.1 hj]; exact hk') (Nat.le_of_lt hk') (Yt hv (hEG.trans hE2)) (RdL.ext ⟨ws, g1, g2⟩ (hEG.trans hE2)) (Yt hSG hE2) hnvL).mono ?_
    rintro r H2 ⟨hE3, hr⟩
    have hEn : Ext (fun _ => False) h H2 := (hEG.trans hE2).trans hE3
    refine hN25 [(0, v), (1, av), (2, lv), (3, Zx (s : Nat)), (4, Zx (fr : Nat)), (5, bv), (12, .slice none 0 0), (13, .bool (Xv o pre o.length)), (16, Zx (k : Nat)), (17, S), (22, r)] _ _ ?_ (by simp (maxSteps := 2000000) only [↓Za, ↓Zm, ↓Zr, ↓Ze, ↓Zk, ↓Zs, ↓Zf, ↓Zi, ↓Zg, ↓Zc, ↓Zb, ↓vdn, vup, Zl, Zn, Zh, Zj, Zo, List.map_cons, List.map_nil, cond_true, cond_false, aop, Zv, Zq, Zp, ev, sput, Zt, Zy, Ya, unK, Zd, Zw, Nat.reduceBEq, Nat.reduceAdd, Int.reduceBEq, Int.reduceBNe, Int.reduceLT, Zu, Zz, tup, tyf])
    clear hN25
    try clear N25
    cases hsr : srch (sepB o) (cn o) 0 s' (k + 0) (pre ++ [k]) with
    | none =>
      rw [show k + 0 = k from rfl] at hsr
      rw [hsr] at hr
      obtain rfl : r = .slice none 0 0 := hr
      refine Yc fun N26 hN26 => ?_
      simp (maxSteps := 2000000) only [s82, ↓Za, ↓Zm, ↓Zr, ↓Ze, ↓Zk, ↓Zs, ↓Zf, ↓Zi, ↓Zg, ↓Zc, ↓Zb, ↓vdn, vup, Zl, Zn, Zh, Zj, Zo, List.map_cons, List.map_nil, cond_true, cond_false, aop, Zv, Zq, Zp, ev, sput, Zt, Zy, Ya, unK, Zd, Zw, Nat.reduceBEq, Nat.reduceAdd, Int.reduceBEq, Int.reduceBNe, Int.reduceLT, Zu, Zz, tup, tyf, el_45, Option.isSome_some]
      refine hN26 [(0, v), (1, av), (2, lv), (3, Zx (s : Nat)), (4, Zx (fr : Nat)), (5, bv), (12, .slice none 0 0), (13, .bool (Xv o pre o.length)), (16, Zx (k : Nat)), (17, S), (22, .slice none 0 0), (100, .bool false)] _ _ ?_ (by simp (maxSteps := 2000000) only [↓Za, ↓Zm, ↓Zr, ↓Ze, ↓Zk, ↓Zs, ↓Zf, ↓Zi, ↓Zg, ↓Zc, ↓Zb, ↓vdn, vup, Zl, Zn, Zh, Zj, Zo, List.map_cons, List.map_nil, cond_true, cond_false, aop, Zv, Zq, Zp, ev, sput, Zt, Zy, Ya, unK, Zd, Zw, Nat.reduceBEq, Nat.reduceAdd, Int.reduceBEq, Int.reduceBNe, Int.reduceLT, Zu, Zz, tup, tyf])
      clear hN26
      try clear N26
      refine Xy rfl ?_
      refine Yl ?_
      simp (maxSteps := 2000000) only [s82, ↓Za, ↓Zm, ↓Zr, ↓Ze, ↓Zk, ↓Zs, ↓Zf, ↓Zi, ↓Zg, ↓Zc, ↓Zb, ↓vdn, vup, Zl, Zn, Zh, Zj, Zo, List.map_cons, List.map_nil, cond_true, cond_false, aop, Zv, Zq, Zp, ev, sput, Zt, Zy, Ya, unK, Zd, Zw, Nat.reduceBEq, Nat.reduceAdd, Int.reduceBEq, Int.reduceBNe, Int.reduceLT, Zu, Zz, tup, tyf]
      refine hB [(0, v), (1, av), (2, lv), (3, Zx (s : Nat)), (4, Zx (fr : Nat)), (5, bv), (12, .slice none 0 0), (13, .bool (Xv o pre o.length)), (16, Zx (k : Nat))] _ _ ?_ (by simp (maxSteps := 2000000) only [↓Za, ↓Zm, ↓Zr, ↓Ze, ↓Zk, ↓Zs, ↓Zf, ↓Zi, ↓Zg, ↓Zc, ↓Zb, ↓vdn, vup, Zl, Zn, Zh, Zj, Zo, List.map_cons, List.map_nil, cond_true, cond_false, aop, Zv, Zq, Zp, ev, sput, Zt, Zy, Ya, unK, Zd, Zw, Nat.reduceBEq, Nat.reduceAdd, Int.reduceBEq, Int.reduceBNe, Int.reduceLT, Zu, Zz, tup, tyf])
      clear hB
      try clear B
      refine Yl ?_
      simp (maxSteps := 2000000) only [s82, ↓Za, ↓Zm, ↓Zr, ↓Ze, ↓Zk, ↓Zs, ↓Zf, ↓Zi, ↓Zg, ↓Zc, ↓Zb, ↓vdn, vup, Zl, Zn, Zh, Zj, Zo, List.map_cons, List.map_nil, cond_true, cond_false, aop, Zv, Zq, Zp, ev, sput, Zt, Zy, Ya, unK, Zd, Zw, Nat.reduceBEq, Nat.reduceAdd, Int.reduceBEq, Int.reduceBNe, Int.reduceLT, Zu, Zz, tup, tyf, add1 (show k < 9223372036854775807 by omega)]
      exact hQ2 _ _ _ ⟨(k + 1, H2), ⟨⟨by simp only; omega, hk'⟩, fun j h1 h2 => by
        by_cases hjk : j = k
        · subst hjk; exact hsr
        · exact hno j h1 (by simp only at h2; omega), hEn⟩, by simp only; omega, by simp (maxSteps := 2000000) only [↓Za, ↓Zm, ↓Zr, ↓Ze, ↓Zk, ↓Zs, ↓Zf, ↓Zi, ↓Zg, ↓Zc, ↓Zb, ↓vdn, vup, Zl, Zn, Zh, Zj, Zo, List.map_cons, List.map_nil, cond_true, cond_false, aop, Zv, Zq, Zp, ev, sput, Zt, Zy, Ya, unK, Zd, Zw, Nat.reduceBEq, Nat.reduceAdd, Int.reduceBEq, Int.reduceBNe, Int.reduceLT, Zu, Zz, tup, tyf], rfl⟩
    | some q =>
      have hfind := find_hit (G := fun k => srch (sepB o) (cn o) 0 s' (k + 0) (pre ++ [k])) hno hk1 hk' hsr
      rw [show k + 0 = k from rfl] at hsr
      rw [hsr] at hr
      have hr' : OwnL 22 3 H2 r (lnL o q) := hr
      obtain ⟨t, hqt, _⟩ := srch_some hsr
      obtain ⟨p, n, c, rfl⟩ := ownL_some hr' (by rw [hqt]; simp [lnL])
      refine Yc fun N27 hN27 => ?_
      simp (maxSteps := 2000000) only [s82, ↓Za, ↓Zm, ↓Zr, ↓Ze, ↓Zk, ↓Zs, ↓Zf, ↓Zi, ↓Zg, ↓Zc, ↓Zb, ↓vdn, vup, Zl, Zn, Zh, Zj, Zo, List.map_cons, List.map_nil, cond_true, cond_false, aop, Zv, Zq, Zp, ev, sput, Zt, Zy, Ya, unK, Zd, Zw, Nat.reduceBEq, Nat.reduceAdd, Int.reduceBEq, Int.reduceBNe, Int.reduceLT, Zu, Zz, tup, tyf, el_45, Option.isSome_some]
      refine hN27 [(0, v), (1, av), (2, lv), (3, Zx (s : Nat)), (4, Zx (fr : Nat)), (5, bv), (12, .slice none 0 0), (13, .bool (Xv o pre o.length)), (16, Zx (k : Nat)), (17, S), (22, .slice (some p) n c), (100, .bool true)] _ _ ?_ (by simp (maxSteps := 2000000) only [↓Za, ↓Zm, ↓Zr, ↓Ze, ↓Zk, ↓Zs, ↓Zf, ↓Zi, ↓Zg, ↓Zc, ↓Zb, ↓vdn, vup, Zl, Zn, Zh, Zj, Zo, List.map_cons, List.map_nil, cond_true, cond_false, aop, Zv, Zq, Zp, ev, sput, Zt, Zy, Ya, unK, Zd, Zw, Nat.reduceBEq, Nat.reduceAdd, Int.reduceBEq, Int.reduceBNe, Int.reduceLT, Zu, Zz, tup, tyf])
      clear hN27
      try clear N27
      refine Wu rfl ?_
      refine Yl ?_
      simp (maxSteps := 2000000) only [s82, ↓Za, ↓Zm, ↓Zr, ↓Ze, ↓Zk, ↓Zs, ↓Zf, ↓Zi, ↓Zg, ↓Zc, ↓Zb, ↓vdn, vup, Zl, Zn, Zh, Zj, Zo, List.map_cons, List.map_nil, cond_true, cond_false, aop, Zv, Zq, Zp, ev, sput, Zt, Zy, Ya, unK, Zd, Zw, Nat.reduceBEq, Nat.reduceAdd, Int.reduceBEq, Int.reduceBNe, Int.reduceLT, Zu, Zz, tup, tyf]
      refine hQ2 _ _ _ (hQ _ _ _ ?_)
      simp (maxSteps := 2000000) only [s82, ↓Za, ↓Zm, ↓Zr, ↓Ze, ↓Zk, ↓Zs, ↓Zf, ↓Zi, ↓Zg, ↓Zc, ↓Zb, ↓vdn, vup, Zl, Zn, Zh, Zj, Zo, List.map_cons, List.map_nil, cond_true, cond_false, aop, Zv, Zq, Zp, ev, sput, Zt, Zy, Ya, unK, Zd, Zw, Nat.reduceBEq, Nat.reduceAdd, Int.reduceBEq, Int.reduceBNe, Int.reduceLT, Zu, Zz, tup, tyf]
      exact ⟨hEn, by rw [hs', srch, hfind]; exact hr'⟩
  obtain rfl : k = cn o := by omega
  refine Yh fun A hA => ?_
  refine Yc fun N28 hN28 => ?_
  simp (maxSteps := 2000000) only [s82, ↓Za, ↓Zm, ↓Zr, ↓Ze, ↓Zk, ↓Zs, ↓Zf, ↓Zi, ↓Zg, ↓Zc, ↓Zb, ↓vdn, vup, Zl, Zn, Zh, Zj, Zo, List.map_cons, List.map_nil, cond_true, cond_false, aop, Zv, Zq, Zp, ev, sput, Zt, Zy, Ya, unK, Zd, Zw, Nat.reduceBEq, Nat.reduceAdd, Int.reduceBEq, Int.reduceBNe, Int.reduceLT, Zu, Zz, tup, tyf, hlK, hkin]
  refine hN28 [(0, v), (1, av), (2, lv), (3, Zx (s : Nat)), (4, Zx (fr : Nat)), (5, bv), (12, .slice none 0 0), (13, .bool (Xv o pre o.length)), (16, Zx (cn o : Nat)), (43, .bool false)] _ _ ?_ (by simp (maxSteps := 2000000) only [↓Za, ↓Zm, ↓Zr, ↓Ze, ↓Zk, ↓Zs, ↓Zf, ↓Zi, ↓Zg, ↓Zc, ↓Zb, ↓vdn, vup, Zl, Zn, Zh, Zj, Zo, List.map_cons, List.map_nil, cond_true, cond_false, aop, Zv, Zq, Zp, ev, sput, Zt, Zy, Ya, unK, Zd, Zw, Nat.reduceBEq, Nat.reduceAdd, Int.reduceBEq, Int.reduceBNe, Int.reduceLT, Zu, Zz, tup, tyf])
  clear hN28
  try clear N28
  refine Xy rfl ?_
  refine Yl ?_
  simp (maxSteps := 2000000) only [s82, ↓Za, ↓Zm, ↓Zr, ↓Ze, ↓Zk, ↓Zs, ↓Zf, ↓Zi, ↓Zg, ↓Zc, ↓Zb, ↓vdn, vup, Zl, Zn, Zh, Zj, Zo, List.map_cons, List.map_nil, cond_true, cond_false, aop, Zv, Zq, Zp, ev, sput, Zt, Zy, Ya, unK, Zd, Zw, Nat.reduceBEq, Nat.reduceAdd, Int.reduceBEq, Int.reduceBNe, Int.reduceLT, Zu, Zz, tup, tyf]
  refine hQ2 _ _ _ (hQ _ _ _ ?_)
  simp (maxSteps := 2000000) only [s82, ↓Za, ↓Zm, ↓Zr, ↓Ze, ↓Zk, ↓Zs, ↓Zf, ↓Zi, ↓Zg, ↓Zc, ↓Zb, ↓vdn, vup, Zl, Zn, Zh, Zj, Zo, List.map_cons, List.map_nil, cond_true, cond_false, aop, Zv, Zq, Zp, ev, sput, Zt, Zy, Ya, unK, Zd, Zw, Nat.reduceBEq, Nat.reduceAdd, Int.reduceBEq, Int.reduceBNe, Int.reduceLT, Zu, Zz, tup, tyf, if_true]
  refine hZ [(0, v), (1, av), (2, lv), (3, Zx (s : Nat)), (4, Zx (fr : Nat)), (5, bv), (12, .slice none 0 0), (13, .bool (Xv o pre o.length))] _ _ ?_ (by simp (maxSteps := 2000000) only [↓Za, ↓Zm, ↓Zr, ↓Ze, ↓Zk, ↓Zs, ↓Zf, ↓Zi, ↓Zg, ↓Zc, ↓Zb, ↓vdn, vup, Zl, Zn, Zh, Zj, Zo, List.map_cons, List.map_nil, cond_true, cond_false, aop, Zv, Zq, Zp, ev, sput, Zt, Zy, Ya, unK, Zd, Zw, Nat.reduceBEq, Nat.reduceAdd, Int.reduceBEq, Int.reduceBNe, Int.reduceLT, Zu, Zz, tup, tyf])
  clear hZ
  try clear Z
  refine Yl ?_
  simp (maxSteps := 2000000) only [s82, ↓Za, ↓Zm, ↓Zr, ↓Ze, ↓Zk, ↓Zs, ↓Zf, ↓Zi, ↓Zg, ↓Zc, ↓Zb, ↓vdn, vup, Zl, Zn, Zh, Zj, Zo, List.map_cons, List.map_nil, cond_true, cond_false, aop, Zv, Zq, Zp, ev, sput, Zt, Zy, Ya, unK, Zd, Zw, Nat.reduceBEq, Nat.reduceAdd, Int.reduceBEq, Int.reduceBNe, Int.reduceLT, Zu, Zz, tup, tyf]
  exact ⟨hE, by rw [hs', srch, find_none hno]; rfl⟩
end Go.Proofs.Tryd.Am

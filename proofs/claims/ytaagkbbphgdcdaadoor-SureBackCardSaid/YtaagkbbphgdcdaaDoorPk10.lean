/-
  sure: Back, and the law SureBack.
-/
import Derived.Test.YtaagkbbphgdcdaaDoorPk9
set_option linter.all false
namespace Go.Proofs.Tryd.Am
open Go.Am Sr
set_option maxRecDepth 100000
set_option maxHeartbeats 4000000

def setT (xs : List Int) (o i : Nat) : Nat := mk (fun j => (gn xs j).testBit o) i
theorem setT_succ (xs : List Int) (o i : Nat) : setT xs o (i + 1) = setT xs o i ||| (if (gn xs i).testBit o then 2 ^ i else 0) := by
  rw [setT, setT, mk]
  split
  · rfl
  · exact (Nat.or_zero _).symm
theorem setT_lt (xs : List Int) (o : Nat) {i : Nat} (h : i ≤ 6) : setT xs o i < 64 := Nat.lt_of_lt_of_le (mk_lt _ _) (pow6N h)
theorem iL_mem {L : List Nat} {s : Nat} : (iL L).contains ((s : Nat) : Int) = decide (s ∈ L) := by
  rw [Bool.eq_iff_iff, List.contains_iff_mem, decide_eq_true_eq]
  constructor
  · intro h
    obtain ⟨t, ht, e⟩ := List.mem_map.1 h
    have : t = s := by have e' : ((t : Nat) : Int) = (s : Nat) := e; omega
    rw [← this]; exact ht
  · intro h; exact List.mem_map.2 ⟨s, h, rfl⟩

theorem s45_callW [Tabs Tryd.prog] {args : List Value} {h : Zz} {Q : Value → Zz → Prop} (hsz : args.length ≤ 55) (hk : AWS Tryd.prog 55 s45 (Zy Tryd.prog [.cell 2 44, .tmp 3] Q) (Zv 0 args) h) : ACall Tryd.prog 45 args h Q :=
  Xr Tryd.func45 rfl (enters_of Tryd.func45 (by kernel_rfl) rfl) rfl rfl (by decide) s45_strip s45_ok hsz hk
theorem back_call [Tabs prog] {h : Zz} {v : Value} {xs : List Int} (hv : IntSl h v xs) (hl : xs.length < 9223372036854775807) :
    ACall prog 45 [v] h fun r h' => Ext (fun _ => False) h h' ∧ if chB xs = true then ∃ q : Rat, r = .tuple #[frV q.den q.num, .int .i64 0] ∧ BQ xs q else r = .tuple #[frV 0 0, .int .i64 2] := by
  obtain ⟨H, hH⟩ : ∃ H, H = h ++ [Blk.cells [.int .i64 0, .int .i64 0] 44 false] := ⟨_, rfl⟩
  have hc : H[h.length]? = some (.cells [.int .i64 0, .int .i64 0] 44 false) := by rw [hH]; exact Xn _ _
  have hv0 : IntSl H v xs := hH ▸ hv.grow _
  have hE0 : Ext (fun _ => False) h H := hH ▸ Ext.app _ _ _
  refine s45_callW (by simp) ?_
  simp only [s45]
  refine Zx fun N1 hN1 => ?_
  simp (maxSteps := 2000000) only [s45, ↓Za, ↓Zi, ↓Zn, ↓Zg, ↓Zl, ↓Zw, ↓Zb, ↓Zc, ↓Zh, ↓Zd, ↓Zf, ↓vdn, vup, Zs, Zr, Zo, Zt, Zp, List.map_cons, List.map_nil, cond_true, cond_false, aop, Zk, Zu, Zv, ev, sput, Zj, Yb, Yc, unK, Ze, Ya, Nat.reduceBEq, Nat.reduceAdd, Int.reduceBEq, Int.reduceBNe, Int.reduceLT, Zy, Yf, tup, tyf, Wz, Wa, zero_44, ← hH]
  refine hN1 [(0, v), (2, .pointer (some ⟨h.length, 0, none⟩)), (3, .int .i64 0)] _ _ ?_ (by simp (maxSteps := 2000000) only [↓Za, ↓Zi, ↓Zn, ↓Zg, ↓Zl, ↓Zw, ↓Zb, ↓Zc, ↓Zh, ↓Zd, ↓Zf, ↓vdn, vup, Zs, Zr, Zo, Zt, Zp, List.map_cons, List.map_nil, cond_true, cond_false, aop, Zk, Zu, Zv, ev, sput, Zj, Yb, Yc, unK, Ze, Ya, Nat.reduceBEq, Nat.reduceAdd, Int.reduceBEq, Int.reduceBNe, Int.reduceLT, Zy, Yf, tup, tyf])
  clear hN1
  try clear N1
  refine Yd fun M hM => ?_
  refine Zx fun N2 hN2 => ?_
  simp (maxSteps := 2000000) only [s45, ↓Za, ↓Zi, ↓Zn, ↓Zg, ↓Zl, ↓Zw, ↓Zb, ↓Zc, ↓Zh, ↓Zd, ↓Zf, ↓vdn, vup, Zs, Zr, Zo, Zt, Zp, List.map_cons, List.map_nil, cond_true, cond_false, aop, Zk, Zu, Zv, ev, sput, Zj, Yb, Yc, unK, Ze, Ya, Nat.reduceBEq, Nat.reduceAdd, Int.reduceBEq, Int.reduceBNe, Int.reduceLT, Zy, Yf, tup, tyf, Xd, List.nil_append, List.append_nil, List.toList_toArray, List.cons_append]
  refine (ischan_call hv0 hl).mono ?_
  rintro _ H ⟨rfl, rfl⟩
  cases hch : chB xs with
  | false =>
    simp (maxSteps := 2000000) only [s45, ↓Za, ↓Zi, ↓Zn, ↓Zg, ↓Zl, ↓Zw, ↓Zb, ↓Zc, ↓Zh, ↓Zd, ↓Zf, ↓vdn, vup, Zs, Zr, Zo, Zt, Zp, List.map_cons, List.map_nil, cond_true, cond_false, aop, Zk, Zu, Zv, ev, sput, Zj, Yb, Yc, unK, Ze, Ya, Nat.reduceBEq, Nat.reduceAdd, Int.reduceBEq, Int.reduceBNe, Int.reduceLT, Zy, Yf, tup, tyf, Bool.not_false]
    refine hN2 [(0, v), (2, .pointer (some ⟨h.length, 0, none⟩)), (3, .int .i64 0), (12, .bool true)] _ _ ?_ (by simp (maxSteps := 2000000) only [↓Za, ↓Zi, ↓Zn, ↓Zg, ↓Zl, ↓Zw, ↓Zb, ↓Zc, ↓Zh, ↓Zd, ↓Zf, ↓vdn, vup, Zs, Zr, Zo, Zt, Zp, List.map_cons, List.map_nil, cond_true, cond_false, aop, Zk, Zu, Zv, ev, sput, Zj, Yb, Yc, unK, Ze, Ya, Nat.reduceBEq, Nat.reduceAdd, Int.reduceBEq, Int.reduceBNe, Int.reduceLT, Zy, Yf, tup, tyf])
    clear hN2
    try clear N2
    refine Xh rfl ?_
    refine Ye ?_
    have hst : ∀ {K : Zz → Prop}, Xq prog H 44 (.pointer (some ⟨h.length, 0, none⟩)) (.agg #[Zm 0, Zm 0]) K = K (H.set h.length (.cells [Zm 0, Zm 0] 44 false)) := fun {K} => storeF hc rfl
    simp (maxSteps := 2000000) only [s45, ↓Za, ↓Zi, ↓Zn, ↓Zg, ↓Zl, ↓Zw, ↓Zb, ↓Zc, ↓Zh, ↓Zd, ↓Zf, ↓vdn, vup, Zs, Zr, Zo, Zt, Zp, List.map_cons, List.map_nil, cond_true, cond_false, aop, Zk, Zu, Zv, ev, sput, Zj, Yb, Yc, unK, Ze, Ya, Nat.reduceBEq, Nat.reduceAdd, Int.reduceBEq, Int.reduceBNe, Int.reduceLT, Zy, Yf, tup, tyf, bldF0, hst, loadF (get_set (Xc hc) _)]
    exact ⟨hE0.set_ge (Nat.le_refl _) _, by rw [hch, if_neg (by decide)]; rfl⟩
  | true =>
    have c := Va.1 hch
    have h6 := c.2.1
    have h1n := c.1
    simp (maxSteps := 2000000) only [s45, ↓Za, ↓Zi, ↓Zn, ↓Zg, ↓Zl, ↓Zw, ↓Zb, ↓Zc, ↓Zh, ↓Zd, ↓Zf, ↓vdn, vup, Zs, Zr, Zo, Zt, Zp, List.map_cons, List.map_nil, cond_true, cond_false, aop, Zk, Zu, Zv, ev, sput, Zj, Yb, Yc, unK, Ze, Ya, Nat.reduceBEq, Nat.reduceAdd, Int.reduceBEq, Int.reduceBNe, Int.reduceLT, Zy, Yf, tup, tyf, Bool.not_true]
    refine hN2 [(0, v), (2, .pointer (some ⟨h.length, 0, none⟩)), (3, .int .i64 0), (12, .bool false)] _ _ ?_ (by simp (maxSteps := 2000000) only [↓Za, ↓Zi, ↓Zn, ↓Zg, ↓Zl, ↓Zw, ↓Zb, ↓Zc, ↓Zh, ↓Zd, ↓Zf, ↓vdn, vup, Zs, Zr, Zo, Zt, Zp, List.map_cons, List.map_nil, cond_true, cond_false, aop, Zk, Zu, Zv, ev, sput, Zj, Yb, Yc, unK, Ze, Ya, Nat.reduceBEq, Nat.reduceAdd, Int.reduceBEq, Int.reduceBNe, Int.reduceLT, Zy, Yf, tup, tyf])
    clear hN2
    try clear N2
    refine Yv rfl ?_
    refine Ye ?_
    simp (maxSteps := 2000000) only [s45, ↓Za, ↓Zi, ↓Zn, ↓Zg, ↓Zl, ↓Zw, ↓Zb, ↓Zc, ↓Zh, ↓Zd, ↓Zf, ↓vdn, vup, Zs, Zr, Zo, Zt, Zp, List.map_cons, List.map_nil, cond_true, cond_false, aop, Zk, Zu, Zv, ev, sput, Zj, Yb, Yc, unK, Ze, Ya, Nat.reduceBEq, Nat.reduceAdd, Int.reduceBEq, Int.reduceBNe, Int.reduceLT, Zy, Yf, tup, tyf]
    refine hM [(0, v), (2, .pointer (some ⟨h.length, 0, none⟩)), (3, .int .i64 0)] _ _ ?_ (by simp (maxSteps := 2000000) only [↓Za, ↓Zi, ↓Zn, ↓Zg, ↓Zl, ↓Zw, ↓Zb, ↓Zc, ↓Zh, ↓Zd, ↓Zf, ↓vdn, vup, Zs, Zr, Zo, Zt, Zp, List.map_cons, List.map_nil, cond_true, cond_false, aop, Zk, Zu, Zv, ev, sput, Zj, Yb, Yc, unK, Ze, Ya, Nat.reduceBEq, Nat.reduceAdd, Int.reduceBEq, Int.reduceBNe, Int.reduceLT, Zy, Yf, tup, tyf])
    clear hM
    try clear M
    refine Zx fun N3 hN3 => ?_
    simp (maxSteps := 2000000) only [s45, ↓Za, ↓Zi, ↓Zn, ↓Zg, ↓Zl, ↓Zw, ↓Zb, ↓Zc, ↓Zh, ↓Zd, ↓Zf, ↓vdn, vup, Zs, Zr, Zo, Zt, Zp, List.map_cons, List.map_nil, cond_true, cond_false, aop, Zk, Zu, Zv, ev, sput, Zj, Yb, Yc, unK, Ze, Ya, Nat.reduceBEq, Nat.reduceAdd, Int.reduceBEq, Int.reduceBNe, Int.reduceLT, Zy, Yf, tup, tyf]
    refine hN3 [(0, v), (2, .pointer (some ⟨h.length, 0, none⟩)), (3, .int .i64 0), (4, .slice none 0 0)] _ _ ?_ (by simp (maxSteps := 2000000) only [↓Za, ↓Zi, ↓Zn, ↓Zg, ↓Zl, ↓Zw, ↓Zb, ↓Zc, ↓Zh, ↓Zd, ↓Zf, ↓vdn, vup, Zs, Zr, Zo, Zt, Zp, List.map_cons, List.map_nil, cond_true, cond_false, aop, Zk, Zu, Zv, ev, sput, Zj, Yb, Yc, unK, Ze, Ya, Nat.reduceBEq, Nat.reduceAdd, Int.reduceBEq, Int.reduceBNe, Int.reduceLT, Zy, Yf, tup, tyf])
    clear hN3
    try clear N3
    refine Yd fun Z hZ => ?_
    refine Zx fun N4 hN4 => ?_
    simp (maxSteps := 2000000) only [s45, ↓Za, ↓Zi, ↓Zn, ↓Zg, ↓Zl, ↓Zw, ↓Zb, ↓Zc, ↓Zh, ↓Zd, ↓Zf, ↓vdn, vup, Zs, Zr, Zo, Zt, Zp, List.map_cons, List.map_nil, cond_true, cond_false, aop, Zk, Zu, Zv, ev, sput, Zj, Yb, Yc, unK, Ze, Ya, Nat.reduceBEq, Nat.reduceAdd, Int.reduceBEq, Int.reduceBNe, Int.reduceLT, Zy, Yf, tup, tyf]
    refine hN4 [(0, v), (2, .pointer (some ⟨h.length, 0, none⟩)), (3, .int .i64 0), (4, .slice none 0 0), (14, .int .i64 0)] _ _ ?_ (by simp (maxSteps := 2000000) only [↓Za, ↓Zi, ↓Zn, ↓Zg, ↓Zl, ↓Zw, ↓Zb, ↓Zc, ↓Zh, ↓Zd, ↓Zf, ↓vdn, vup, Zs, Zr, Zo, Zt, Zp, List.map_cons, List.map_nil, cond_true, cond_false, aop, Zk, Zu, Zv, ev, sput, Zj, Yb, Yc, unK, Ze, Ya, Nat.reduceBEq, Nat.reduceAdd, Int.reduceBEq, Int.reduceBNe, Int.reduceLT, Zy, Yf, tup, tyf])
    clear hN4
    try clear N4
    refine Yh ?_
    refine Yg fun Q hQ => ?_
    refine Xe (γ := Nat × Zz × Value) (fun g => g.1 ≤ 8 ∧ RSI H g.2.1 g.2.2 (iL (bsTo xs g.1)))
      (fun g => ([(0, v), (2, .pointer (some ⟨h.length, 0, none⟩)), (3, .int .i64 0), (4, g.2.2), (14, Zm (g.1 : Nat))], g.2.1)) (fun g => 8 - g.1) (0, H, .slice none 0 0) ⟨Nat.zero_le _, RSI.nil H⟩ (by simp (maxSteps := 2000000) only [↓Za, ↓Zi, ↓Zn, ↓Zg, ↓Zl, ↓Zw, ↓Zb, ↓Zc, ↓Zh, ↓Zd, ↓Zf, ↓vdn, vup, Zs, Zr, Zo, Zt, Zp, List.map_cons, List.map_nil, cond_true, cond_false, aop, Zk, Zu, Zv, ev, sput, Zj, Yb, Yc, unK, Ze, Ya, Nat.reduceBEq, Nat.reduceAdd, Int.reduceBEq, Int.reduceBNe, Int.reduceLT, Zy, Yf, tup, tyf, Int.natCast_zero]) rfl ?_
    rintro ⟨o, G, sv⟩ ⟨ho, hsv⟩
    simp only at ho hsv
    refine Yg fun Q2 hQ2 => ?_
    simp only [l45_1]
    have hvG : IntSl G v xs := Wq hv0 hsv.2.1
    by_cases hon : (o : Int) < 8
    · have ho' : o < 8 := by omega
      refine Zx fun N5 hN5 => ?_
      simp (maxSteps := 2000000) only [s45, ↓Za, ↓Zi, ↓Zn, ↓Zg, ↓Zl, ↓Zw, ↓Zb, ↓Zc, ↓Zh, ↓Zd, ↓Zf, ↓vdn, vup, Zs, Zr, Zo, Zt, Zp, List.map_cons, List.map_nil, cond_true, cond_false, aop, Zk, Zu, Zv, ev, sput, Zj, Yb, Yc, unK, Ze, Ya, Nat.reduceBEq, Nat.reduceAdd, Int.reduceBEq, Int.reduceBNe, Int.reduceLT, Zy, Yf, tup, tyf, hon]
      refine hN5 [(0, v), (2, .pointer (some ⟨h.length, 0, none⟩)), (3, .int .i64 0), (4, sv), (14, Zm (o : Nat)), (15, .bool true)] _ _ ?_ (by simp (maxSteps := 2000000) only [↓Za, ↓Zi, ↓Zn, ↓Zg, ↓Zl, ↓Zw, ↓Zb, ↓Zc, ↓Zh, ↓Zd, ↓Zf, ↓vdn, vup, Zs, Zr, Zo, Zt, Zp, List.map_cons, List.map_nil, cond_true, cond_false, aop, Zk, Zu, Zv, ev, sput, Zj, Yb, Yc, unK, Ze, Ya, Nat.reduceBEq, Nat.reduceAdd, Int.reduceBEq, Int.reduceBNe, Int.reduceLT, Zy, Yf, tup, tyf])
      clear hN5
      try clear N5
      refine Zx fun N6 hN6 => ?_
      simp (maxSteps := 2000000) only [s45, ↓Za, ↓Zi, ↓Zn, ↓Zg, ↓Zl, ↓Zw, ↓Zb, ↓Zc, ↓Zh, ↓Zd, ↓Zf, ↓vdn, vup, Zs, Zr, Zo, Zt, Zp, List.map_cons, List.map_nil, cond_true, cond_false, aop, Zk, Zu, Zv, ev, sput, Zj, Yb, Yc, unK, Ze, Ya, Nat.reduceBEq, Nat.reduceAdd, Int.reduceBEq, Int.reduceBNe, Int.reduceLT, Zy, Yf, tup, tyf]
      refine hN6 [(0, v), (2, .pointer (some ⟨h.length, 0, none⟩)), (3, .int .i64 0), (4, sv), (14, Zm (o : Nat))] _ _ ?_ (by simp (maxSteps := 2000000) only [↓Za, ↓Zi, ↓Zn, ↓Zg, ↓Zl, ↓Zw, ↓Zb, ↓Zc, ↓Zh, ↓Zd, ↓Zf, ↓vdn, vup, Zs, Zr, Zo, Zt, Zp, List.map_cons, List.map_nil, cond_true, cond_false, aop, Zk, Zu, Zv, ev, sput, Zj, Yb, Yc, unK, Ze, Ya, Nat.reduceBEq, Nat.reduceAdd, Int.reduceBEq, Int.reduceBNe, Int.reduceLT, Zy, Yf, tup, tyf])
      clear hN6
      try clear N6
      refine Yd fun B hB => ?_
      refine Yh ?_
      refine Zx fun N7 hN7 => ?_
      simp (maxSteps := 2000000) only [s45, ↓Za, ↓Zi, ↓Zn, ↓Zg, ↓Zl, ↓Zw, ↓Zb, ↓Zc, ↓Zh, ↓Zd, ↓Zf, ↓vdn, vup, Zs, Zr, Zo, Zt, Zp, List.map_cons, List.map_nil, cond_true, cond_false, aop, Zk, Zu, Zv, ev, sput, Zj, Yb, Yc, unK, Ze, Ya, Nat.reduceBEq, Nat.reduceAdd, Int.reduceBEq, Int.reduceBNe, Int.reduceLT, Zy, Yf, tup, tyf]
      refine hN7 [(0, v), (2, .pointer (some ⟨h.length, 0, none⟩)), (3, .int .i64 0), (4, sv), (5, Zm (o : Nat)), (14, Zm (o : Nat))] _ _ ?_ (by simp (maxSteps := 2000000) only [↓Za, ↓Zi, ↓Zn, ↓Zg, ↓Zl, ↓Zw, ↓Zb, ↓Zc, ↓Zh, ↓Zd, ↓Zf, ↓vdn, vup, Zs, Zr, Zo, Zt, Zp, List.map_cons, List.map_nil, cond_true, cond_false, aop, Zk, Zu, Zv, ev, sput, Zj, Yb, Yc, unK, Ze, Ya, Nat.reduceBEq, Nat.reduceAdd, Int.reduceBEq, Int.reduceBNe, Int.reduceLT, Zy, Yf, tup, tyf])
      clear hN7
      try clear N7
      refine Zx fun N8 hN8 => ?_
      simp (maxSteps := 2000000) only [s45, ↓Za, ↓Zi, ↓Zn, ↓Zg, ↓Zl, ↓Zw, ↓Zb, ↓Zc, ↓Zh, ↓Zd, ↓Zf, ↓vdn, vup, Zs, Zr, Zo, Zt, Zp, List.map_cons, List.map_nil, cond_true, cond_false, aop, Zk, Zu, Zv, ev, sput, Zj, Yb, Yc, unK, Ze, Ya, Nat.reduceBEq, Nat.reduceAdd, Int.reduceBEq, Int.reduceBNe, Int.reduceLT, Zy, Yf, tup, tyf]
      refine hN8 [(0, v), (2, .pointer (some ⟨h.length, 0, none⟩)), (3, .int .i64 0), (4, sv), (5, Zm (o : Nat)), (6, .int .i64 0), (14, Zm (o : Nat))] _ _ ?_ (by simp (maxSteps := 2000000) only [↓Za, ↓Zi, ↓Zn, ↓Zg, ↓Zl, ↓Zw, ↓Zb, ↓Zc, ↓Zh, ↓Zd, ↓Zf, ↓vdn, vup, Zs, Zr, Zo, Zt, Zp, List.map_cons, List.map_nil, cond_true, cond_false, aop, Zk, Zu, Zv, ev, sput, Zj, Yb, Yc, unK, Ze, Ya, Nat.reduceBEq, Nat.reduceAdd, Int.reduceBEq, Int.reduceBNe, Int.reduceLT, Zy, Yf, tup, tyf])
      clear hN8
      try clear N8
      refine Yd fun A hA => ?_
      refine Zx fun N9 hN9 => ?_
      simp (maxSteps := 2000000) only [s45, ↓Za, ↓Zi, ↓Zn, ↓Zg, ↓Zl, ↓Zw, ↓Zb, ↓Zc, ↓Zh, ↓Zd, ↓Zf, ↓vdn, vup, Zs, Zr, Zo, Zt, Zp, List.map_cons, List.map_nil, cond_true, cond_false, aop, Zk, Zu, Zv, ev, sput, Zj, Yb, Yc, unK, Ze, Ya, Nat.reduceBEq, Nat.reduceAdd, Int.reduceBEq, Int.reduceBNe, Int.reduceLT, Zy, Yf, tup, tyf, hvG.len]
      refine hN9 [(0, v), (2, .pointer (some ⟨h.length, 0, none⟩)), (3, .int .i64 0), (4, sv), (5, Zm (o : Nat)), (6, .int .i64 0), (14, Zm (o : Nat)), (17, v), (18, Zm xs.length), (19, .int .i64 0)] _ _ ?_ (by simp (maxSteps := 2000000) only [↓Za, ↓Zi, ↓Zn, ↓Zg, ↓Zl, ↓Zw, ↓Zb, ↓Zc, ↓Zh, ↓Zd, ↓Zf, ↓vdn, vup, Zs, Zr, Zo, Zt, Zp, List.map_cons, List.map_nil, cond_true, cond_false, aop, Zk, Zu, Zv, ev, sput, Zj, Yb, Yc, unK, Ze, Ya, Nat.reduceBEq, Nat.reduceAdd, Int.reduceBEq, Int.reduceBNe, Int.reduceLT, Zy, Yf, tup, tyf])
      clear hN9
      try clear N9
      refine Yh ?_
      refine Yg fun Qa hQa => ?_
      refine Xe (γ := Nat) (fun i => i ≤ xs.length) (fun i => ([(0, v), (2, .pointer (some ⟨h.length, 0, none⟩)), (3, .int .i64 0), (4, sv), (5, Zm (o : Nat)), (6, Zm (setT xs o i : Nat)), (14, Zm (o : Nat)), (17, v), (18, Zm xs.length), (19, Zm (i : Nat))], G)) (fun i => xs.length - i) 0 (Nat.zero_le _) (by simp (maxSteps := 2000000) only [↓Za, ↓Zi, ↓Zn, ↓Zg, ↓Zl, ↓Zw, ↓Zb, ↓Zc, ↓Zh, ↓Zd, ↓Zf, ↓vdn, vup, Zs, Zr, Zo, Zt, Zp, List.map_cons, List.map_nil, cond_true, cond_false, aop, Zk, Zu, Zv, ev, sput, Zj, Yb, Yc, unK, Ze, Ya, Nat.reduceBEq, Nat.reduceAdd, Int.reduceBEq, Int.reduceBNe, Int.reduceLT, Zy, Yf, tup, tyf, Int.natCast_zero, show setT xs o 0 = 0 from rfl]) rfl ?_
      rintro i hi
      refine Yg fun Qb hQb => ?_
      simp only [l45_0]
      by_cases hin : (i : Int) < xs.length
      · have hi' : i < xs.length := by omega
        obtain ⟨a1, _, a3⟩ := chn_gn c hi'
        have hnn : ∀ i : Nat, (0 : Int) ≤ (i : Int) := Int.natCast_nonneg
        have htst := @testV (gn xs i) o (by omega)
        have hlt := setT_lt xs o (i := i) (by omega)
        have hp : 2 ^ i < 64 := Nat.lt_of_lt_of_le (Nat.pow_lt_pow_right (by decide) hi') (pow6N h6)
        have hsh : shlV .i64 (if (gn xs i).testBit o = true then 1 else 0) (i : Int) = (((if (gn xs i).testBit o = true then 2 ^ i else 0) : Nat) : Int) := by
          split
          · exact shlI1 (by omega)
          · have := shlV_nat (a := 0) (y := i) (by simp) (by omega)
            simpa using this
        have hor : Wh .or .i64 ((setT xs o i : Nat) : Int) (((if (gn xs i).testBit o = true then 2 ^ i else 0) : Nat) : Int) = ((setT xs o (i + 1) : Nat) : Int) := by
          rw [bitsV_or (by omega) (by split <;> omega), setT_succ]
        refine Zx fun N10 hN10 => ?_
        simp (maxSteps := 2000000) only [s45, ↓Za, ↓Zi, ↓Zn, ↓Zg, ↓Zl, ↓Zw, ↓Zb, ↓Zc, ↓Zh, ↓Zd, ↓Zf, ↓vdn, vup, Zs, Zr, Zo, Zt, Zp, List.map_cons, List.map_nil, cond_true, cond_false, aop, Zk, Zu, Zv, ev, sput, Zj, Yb, Yc, unK, Ze, Ya, Nat.reduceBEq, Nat.reduceAdd, Int.reduceBEq, Int.reduceBNe, Int.reduceLT, Zy, Yf, tup, tyf, hin]
        refine hN10 [(0, v), (2, .pointer (some ⟨h.length, 0, none⟩)), (3, .int .i64 0), (4, sv), (5, Zm (o : Nat)), (6, Zm (setT xs o i : Nat)), (14, Zm (o : Nat)), (17, v), (18, Zm xs.length), (19, Zm (i : Nat)), (20, .bool true)] _ _ ?_ (by simp (maxSteps := 2000000) only [↓Za, ↓Zi, ↓Zn, ↓Zg, ↓Zl, ↓Zw, ↓Zb, ↓Zc, ↓Zh, ↓Zd, ↓Zf, ↓vdn, vup, Zs, Zr, Zo, Zt, Zp, List.map_cons, List.map_nil, cond_true, cond_false, aop, Zk, Zu, Zv, ev, sput, Zj, Yb, Yc, unK, Ze, Ya, Nat.reduceBEq, Nat.reduceAdd, Int.reduceBEq, Int.reduceBNe, Int.reduceLT, Zy, Yf, tup, tyf])
        clear hN10
        try clear N10
        refine Zx fun N11 hN11 => ?_
        simp (maxSteps := 2000000) only [s45, ↓Za, ↓Zi, ↓Zn, ↓Zg, ↓Zl, ↓Zw, ↓Zb, ↓Zc, ↓Zh, ↓Zd, ↓Zf, ↓vdn, vup, Zs, Zr, Zo, Zt, Zp, List.map_cons, List.map_nil, cond_true, cond_false, aop, Zk, Zu, Zv, ev, sput, Zj, Yb, Yc, unK, Ze, Ya, Nat.reduceBEq, Nat.reduceAdd, Int.reduceBEq, Int.reduceBNe, Int.reduceLT, Zy, Yf, tup, tyf]
        refine hN11 [(0, v), (2, .pointer (some ⟨h.length, 0, none⟩)), (3, .int .i64 0), (4, sv), (5, Zm (o : Nat)), (6, Zm (setT xs o i : Nat)), (14, Zm (o : Nat)), (17, v), (18, Zm xs.length), (19, Zm (i : Nat))] _ _ ?_ (by simp (maxSteps := 2000000) only [↓Za, ↓Zi, ↓Zn, ↓Zg, ↓Zl, ↓Zw, ↓Zb, ↓Zc, ↓Zh, ↓Zd, ↓Zf, ↓vdn, vup, Zs, Zr, Zo, Zt, Zp, List.map_cons, List.map_nil, cond_true, cond_false, aop, Zk, Zu, Zv, ev, sput, Zj, Yb, Yc, unK, Ze, Ya, Nat.reduceBEq, Nat.reduceAdd, Int.reduceBEq, Int.reduceBNe, Int.reduceLT, Zy, Yf, tup, tyf])
        clear hN11
        try clear N11
        refine Yd fun D hD => ?_
        refine Yh ?_
        refine Zx fun N12 hN12 => ?_
        simp (maxSteps := 2000000) only [s45, ↓Za, ↓Zi, ↓Zn, ↓Zg, ↓Zl, ↓Zw, ↓Zb, ↓Zc, ↓Zh, ↓Zd, ↓Zf, ↓vdn, vup, Zs, Zr, Zo, Zt, Zp, List.map_cons, List.map_nil, cond_true, cond_false, aop, Zk, Zu, Zv, ev, sput, Zj, Yb, Yc, unK, Ze, Ya, Nat.reduceBEq, Nat.reduceAdd, Int.reduceBEq, Int.reduceBNe, Int.reduceLT, Zy, Yf, tup, tyf, hvG.idx Xs Xg hi', hvG.load Xj hi', a1]
        refine hN12 [(0, v), (2, .pointer (some ⟨h.length, 0, none⟩)), (3, .int .i64 0), (4, sv), (5, Zm (o : Nat)), (6, Zm (setT xs o i : Nat)), (7, Zm (i : Nat)), (8, Zm (gn xs i : Nat)), (14, Zm (o : Nat)), (17, v), (18, Zm xs.length), (19, Zm (i : Nat))] _ _ ?_ (by simp (maxSteps := 2000000) only [↓Za, ↓Zi, ↓Zn, ↓Zg, ↓Zl, ↓Zw, ↓Zb, ↓Zc, ↓Zh, ↓Zd, ↓Zf, ↓vdn, vup, Zs, Zr, Zo, Zt, Zp, List.map_cons, List.map_nil, cond_true, cond_false, aop, Zk, Zu, Zv, ev, sput, Zj, Yb, Yc, unK, Ze, Ya, Nat.reduceBEq, Nat.reduceAdd, Int.reduceBEq, Int.reduceBNe, Int.reduceLT, Zy, Yf, tup, tyf])
        clear hN12
        try clear N12
        refine Ye ?_
        simp (maxSteps := 2000000) only [s45, ↓Za, ↓Zi, ↓Zn, ↓Zg, ↓Zl, ↓Zw, ↓Zb, ↓Zc, ↓Zh, ↓Zd, ↓Zf, ↓vdn, vup, Zs, Zr, Zo, Zt, Zp, List.map_cons, List.map_nil, cond_true, cond_false, aop, Zk, Zu, Zv, ev, sput, Zj, Yb, Yc, unK, Ze, Ya, Nat.reduceBEq, Nat.reduceAdd, Int.reduceBEq, Int.reduceBNe, Int.reduceLT, Zy, Yf, tup, tyf, hnn, htst, hsh, hor]
        refine hD [(0, v), (2, .pointer (some ⟨h.length, 0, none⟩)), (3, .int .i64 0), (4, sv), (5, Zm (o : Nat)), (6, Zm (setT xs o (i + 1) : Nat)), (14, Zm (o : Nat)), (17, v), (18, Zm xs.length), (19, Zm (i : Nat))] _ _ ?_ (by simp (maxSteps := 2000000) only [↓Za, ↓Zi, ↓Zn, ↓Zg, ↓Zl, ↓Zw, ↓Zb, ↓Zc, ↓Zh, ↓Zd, ↓Zf, ↓vdn, vup, Zs, Zr, Zo, Zt, Zp, List.map_cons, List.map_nil, cond_true, cond_false, aop, Zk, Zu, Zv, ev, sput, Zj, Yb, Yc, unK, Ze, Ya, Nat.reduceBEq, Nat.reduceAdd, Int.reduceBEq, Int.reduceBNe, Int.reduceLT, Zy, Yf, tup, tyf])
        clear hD
        try clear D
        refine Ye ?_
        simp (maxSteps := 2000000) only [s45, ↓Za, ↓Zi, ↓Zn, ↓Zg, ↓Zl, ↓Zw, ↓Zb, ↓Zc, ↓Zh, ↓Zd, ↓Zf, ↓vdn, vup, Zs, Zr, Zo, Zt, Zp, List.map_cons, List.map_nil, cond_true, cond_false, aop, Zk, Zu, Zv, ev, sput, Zj, Yb, Yc, unK, Ze, Ya, Nat.reduceBEq, Nat.reduceAdd, Int.reduceBEq, Int.reduceBNe, Int.reduceLT, Zy, Yf, tup, tyf, add1 (show i < 9223372036854775807 by omega)]
        exact hQb _ _ _ ⟨i + 1, hi', by omega, by simp (maxSteps := 2000000) only [↓Za, ↓Zi, ↓Zn, ↓Zg, ↓Zl, ↓Zw, ↓Zb, ↓Zc, ↓Zh, ↓Zd, ↓Zf, ↓vdn, vup, Zs, Zr, Zo, Zt, Zp, List.map_cons, List.map_nil, cond_true, cond_false, aop, Zk, Zu, Zv, ev, sput, Zj, Yb, Yc, unK, Ze, Ya, Nat.reduceBEq, Nat.reduceAdd, Int.reduceBEq, Int.reduceBNe, Int.reduceLT, Zy, Yf, tup, tyf], rfl⟩
      obtain rfl : i = xs.length := by omega
      refine Zx fun N13 hN13 => ?_
      simp (maxSteps := 2000000) only [s45, ↓Za, ↓Zi, ↓Zn, ↓Zg, ↓Zl, ↓Zw, ↓Zb, ↓Zc, ↓Zh, ↓Zd, ↓Zf, ↓vdn, vup, Zs, Zr, Zo, Zt, Zp, List.map_cons, List.map_nil, cond_true, cond_false, aop, Zk, Zu, Zv, ev, sput, Zj, Yb, Yc, unK, Ze, Ya, Nat.reduceBEq, Nat.reduceAdd, Int.reduceBEq, Int.reduceBNe, Int.reduceLT, Zy, Yf, tup, tyf, hin]
      refine hN13 [(0, v), (2, .pointer (some ⟨h.length, 0, none⟩)), (3, .int .i64 0), (4, sv), (5, Zm (o : Nat)), (6, Zm (setT xs o xs.length : Nat)), (14, Zm (o : Nat)), (17, v), (18, Zm xs.length), (19, Zm xs.length), (20, .bool false)] _ _ ?_ (by simp (maxSteps := 2000000) only [↓Za, ↓Zi, ↓Zn, ↓Zg, ↓Zl, ↓Zw, ↓Zb, ↓Zc, ↓Zh, ↓Zd, ↓Zf, ↓vdn, vup, Zs, Zr, Zo, Zt, Zp, List.map_cons, List.map_nil, cond_true, cond_false, aop, Zk, Zu, Zv, ev, sput, Zj, Yb, Yc, unK, Ze, Ya, Nat.reduceBEq, Nat.reduceAdd, Int.reduceBEq, Int.reduceBNe, Int.reduceLT, Zy, Yf, tup, tyf])
      clear hN13
      try clear N13
      refine Zx fun N14 hN14 => ?_
      simp (maxSteps := 2000000) only [s45, ↓Za, ↓Zi, ↓Zn, ↓Zg, ↓Zl, ↓Zw, ↓Zb, ↓Zc, ↓Zh, ↓Zd, ↓Zf, ↓vdn, vup, Zs, Zr, Zo, Zt, Zp, List.map_cons, List.map_nil, cond_true, cond_false, aop, Zk, Zu, Zv, ev, sput, Zj, Yb, Yc, unK, Ze, Ya, Nat.reduceBEq, Nat.reduceAdd, Int.reduceBEq, Int.reduceBNe, Int.reduceLT, Zy, Yf, tup, tyf]
      refine hQb _ _ _ (hQa _ _ _ ?_)
      simp (maxSteps := 2000000) only [s45, ↓Za, ↓Zi, ↓Zn, ↓Zg, ↓Zl, ↓Zw, ↓Zb, ↓Zc, ↓Zh, ↓Zd, ↓Zf, ↓vdn, vup, Zs, Zr, Zo, Zt, Zp, List.map_cons, List.map_nil, cond_true, cond_false, aop, Zk, Zu, Zv, ev, sput, Zj, Yb, Yc, unK, Ze, Ya, Nat.reduceBEq, Nat.reduceAdd, Int.reduceBEq, Int.reduceBNe, Int.reduceLT, Zy, Yf, tup, tyf, if_true]
      refine hA [(0, v), (2, .pointer (some ⟨h.length, 0, none⟩)), (3, .int .i64 0), (4, sv), (5, Zm (o : Nat)), (6, Zm (setT xs o xs.length : Nat)), (14, Zm (o : Nat))] _ _ ?_ (by simp (maxSteps := 2000000) only [↓Za, ↓Zi, ↓Zn, ↓Zg, ↓Zl, ↓Zw, ↓Zb, ↓Zc, ↓Zh, ↓Zd, ↓Zf, ↓vdn, vup, Zs, Zr, Zo, Zt, Zp, List.map_cons, List.map_nil, cond_true, cond_false, aop, Zk, Zu, Zv, ev, sput, Zj, Yb, Yc, unK, Ze, Ya, Nat.reduceBEq, Nat.reduceAdd, Int.reduceBEq, Int.reduceBNe, Int.reduceLT, Zy, Yf, tup, tyf])
      clear hA
      try clear A
      clear hQa hQb
      have hset : setT xs o xs.length = setO xs o := rfl
      rw [hset]
      have nxt : ∀ G' sv', RSI H G' sv' (iL (bsTo xs (o + 1))) → ∀ e, ELe e [(0, v), (2, .pointer (some ⟨h.length, 0, none⟩)), (3, .int .i64 0), (4, sv'), (14, Zm (o : Nat))] → B e G' := by
        intro G' sv' hs' e he
        refine hB [(0, v), (2, .pointer (some ⟨h.length, 0, none⟩)), (3, .int .i64 0), (4, sv'), (14, Zm (o : Nat))] _ _ ?_ he
        refine Ye ?_
        simp (maxSteps := 2000000) only [s45, ↓Za, ↓Zi, ↓Zn, ↓Zg, ↓Zl, ↓Zw, ↓Zb, ↓Zc, ↓Zh, ↓Zd, ↓Zf, ↓vdn, vup, Zs, Zr, Zo, Zt, Zp, List.map_cons, List.map_nil, cond_true, cond_false, aop, Zk, Zu, Zv, ev, sput, Zj, Yb, Yc, unK, Ze, Ya, Nat.reduceBEq, Nat.reduceAdd, Int.reduceBEq, Int.reduceBNe, Int.reduceLT, Zy, Yf, tup, tyf, add1 (show o < 9223372036854775807 by omega)]
        exact hQ2 _ _ _ ⟨(o + 1, G', sv'), ⟨ho', hs'⟩, by simp only; omega, by simp (maxSteps := 2000000) only [↓Za, ↓Zi, ↓Zn, ↓Zg, ↓Zl, ↓Zw, ↓Zb, ↓Zc, ↓Zh, ↓Zd, ↓Zf, ↓vdn, vup, Zs, Zr, Zo, Zt, Zp, List.map_cons, List.map_nil, cond_true, cond_false, aop, Zk, Zu, Zv, ev, sput, Zj, Yb, Yc, unK, Ze, Ya, Nat.reduceBEq, Nat.reduceAdd, Int.reduceBEq, Int.reduceBNe, Int.reduceLT, Zy, Yf, tup, tyf], rfl⟩
      by_cases h0 : setO xs o = 0
      · have hz : (((setO xs o : Nat) : Int) != 0) = false := by rw [h0]; rfl
        have e : bsTo xs (o + 1) = bsTo xs o := by rw [bsTo, if_neg fun h => h.1 h0]
        refine Zx fun N15 hN15 => ?_
        simp (maxSteps := 2000000) only [s45, ↓Za, ↓Zi, ↓Zn, ↓Zg, ↓Zl, ↓Zw, ↓Zb, ↓Zc, ↓Zh, ↓Zd, ↓Zf, ↓vdn, vup, Zs, Zr, Zo, Zt, Zp, List.map_cons, List.map_nil, cond_true, cond_false, aop, Zk, Zu, Zv, ev, sput, Zj, Yb, Yc, unK, Ze, Ya, Nat.reduceBEq, Nat.reduceAdd, Int.reduceBEq, Int.reduceBNe, Int.reduceLT, Zy, Yf, tup, tyf, hz]
        refine hN15 [(0, v), (2, .pointer (some ⟨h.length, 0, none⟩)), (3, .int .i64 0), (4, sv), (5, Zm (o : Nat)), (6, Zm (setO xs o : Nat)), (14, Zm (o : Nat)), (40, .bool false)] _ _ ?_ (by simp (maxSteps := 2000000) only [↓Za, ↓Zi, ↓Zn, ↓Zg, ↓Zl, ↓Zw, ↓Zb, ↓Zc, ↓Zh, ↓Zd, ↓Zf, ↓vdn, vup, Zs, Zr, Zo, Zt, Zp, List.map_cons, List.map_nil, cond_true, cond_false, aop, Zk, Zu, Zv, ev, sput, Zj, Yb, Yc, unK, Ze, Ya, Nat.reduceBEq, Nat.reduceAdd, Int.reduceBEq, Int.reduceBNe, Int.reduceLT, Zy, Yf, tup, tyf])
        clear hN15
        try clear N15
        refine Yv rfl ?_
        refine Ye ?_
        simp (maxSteps := 2000000) only [s45, ↓Za, ↓Zi, ↓Zn, ↓Zg, ↓Zl, ↓Zw, ↓Zb, ↓Zc, ↓Zh, ↓Zd, ↓Zf, ↓vdn, vup, Zs, Zr, Zo, Zt, Zp, List.map_cons, List.map_nil, cond_true, cond_false, aop, Zk, Zu, Zv, ev, sput, Zj, Yb, Yc, unK, Ze, Ya, Nat.reduceBEq, Nat.reduceAdd, Int.reduceBEq, Int.reduceBNe, Int.reduceLT, Zy, Yf, tup, tyf]
        exact nxt G sv (e ▸ hsv) _ (by simp (maxSteps := 2000000) only [↓Za, ↓Zi, ↓Zn, ↓Zg, ↓Zl, ↓Zw, ↓Zb, ↓Zc, ↓Zh, ↓Zd, ↓Zf, ↓vdn, vup, Zs, Zr, Zo, Zt, Zp, List.map_cons, List.map_nil, cond_true, cond_false, aop, Zk, Zu, Zv, ev, sput, Zj, Yb, Yc, unK, Ze, Ya, Nat.reduceBEq, Nat.reduceAdd, Int.reduceBEq, Int.reduceBNe, Int.reduceLT, Zy, Yf, tup, tyf])
      · have hz : (((setO xs o : Nat) : Int) != 0) = true := by rw [bneZ, Bool.not_eq_true', beq_eq_false_iff_ne]; exact h0
        have hlen : (iL (bsTo xs o)).length ≤ 8 := by rw [iL_len]; have := bsTo_len xs o; omega
        refine Zx fun N16 hN16 => ?_
        simp (maxSteps := 2000000) only [s45, ↓Za, ↓Zi, ↓Zn, ↓Zg, ↓Zl, ↓Zw, ↓Zb, ↓Zc, ↓Zh, ↓Zd, ↓Zf, ↓vdn, vup, Zs, Zr, Zo, Zt, Zp, List.map_cons, List.map_nil, cond_true, cond_false, aop, Zk, Zu, Zv, ev, sput, Zj, Yb, Yc, unK, Ze, Ya, Nat.reduceBEq, Nat.reduceAdd, Int.reduceBEq, Int.reduceBNe, Int.reduceLT, Zy, Yf, tup, tyf, Xd, List.nil_append, List.append_nil, List.toList_toArray, List.cons_append, hz]
        refine (cont_call (z := ((setO xs o : Nat) : Int)) hsv.1.int (by omega)).mono ?_
        rintro _ G ⟨rfl, rfl⟩
        rw [iL_mem]
        by_cases hm : setO xs o ∈ bsTo xs o
        · have e : bsTo xs (o + 1) = bsTo xs o := by rw [bsTo, if_neg fun h => h.2 hm]
          rw [decide_eq_true hm]
          simp (maxSteps := 2000000) only [s45, ↓Za, ↓Zi, ↓Zn, ↓Zg, ↓Zl, ↓Zw, ↓Zb, ↓Zc, ↓Zh, ↓Zd, ↓Zf, ↓vdn, vup, Zs, Zr, Zo, Zt, Zp, List.map_cons, List.map_nil, cond_true, cond_false, aop, Zk, Zu, Zv, ev, sput, Zj, Yb, Yc, unK, Ze, Ya, Nat.reduceBEq, Nat.reduceAdd, Int.reduceBEq, Int.reduceBNe, Int.reduceLT, Zy, Yf, tup, tyf, Bool.not_true]
          refine hN16 [(0, v), (2, .pointer (some ⟨h.length, 0, none⟩)), (3, .int .i64 0), (4, sv), (5, Zm (o : Nat)), (6, Zm (setO xs o : Nat)), (14, Zm (o : Nat)), (40, .bool false)] _ _ ?_ (by simp (maxSteps := 2000000) only [↓Za, ↓Zi, ↓Zn, ↓Zg, ↓Zl, ↓Zw, ↓Zb, ↓Zc, ↓Zh, ↓Zd, ↓Zf, ↓vdn, vup, Zs, Zr, Zo, Zt, Zp, List.map_cons, List.map_nil, cond_true, cond_false, aop, Zk, Zu, Zv, ev, sput, Zj, Yb, Yc, unK, Ze, Ya, Nat.reduceBEq, Nat.reduceAdd, Int.reduceBEq, Int.reduceBNe, Int.reduceLT, Zy, Yf, tup, tyf])
          clear hN16
          try clear N16
          refine Yv rfl ?_
          refine Ye ?_
          simp (maxSteps := 2000000) only [s45, ↓Za, ↓Zi, ↓Zn, ↓Zg, ↓Zl, ↓Zw, ↓Zb, ↓Zc, ↓Zh, ↓Zd, ↓Zf, ↓vdn, vup, Zs, Zr, Zo, Zt, Zp, List.map_cons, List.map_nil, cond_true, cond_false, aop, Zk, Zu, Zv, ev, sput, Zj, Yb, Yc, unK, Ze, Ya, Nat.reduceBEq, Nat.reduceAdd, Int.reduceBEq, Int.reduceBNe, Int.reduceLT, Zy, Yf, tup, tyf]
          exact nxt _ sv (e ▸ hsv) _ (by simp (maxSteps := 2000000) only [↓Za, ↓Zi, ↓Zn, ↓Zg, ↓Zl, ↓Zw, ↓Zb, ↓Zc, ↓Zh, ↓Zd, ↓Zf, ↓vdn, vup, Zs, Zr, Zo, Zt, Zp, List.map_cons, List.map_nil, cond_true, cond_false, aop, Zk, Zu, Zv, ev, sput, Zj, Yb, Yc, unK, Ze, Ya, Nat.reduceBEq, Nat.reduceAdd, Int.reduceBEq, Int.reduceBNe, Int.reduceLT, Zy, Yf, tup, tyf])
        · have e : bsTo xs (o + 1) = bsTo xs o ++ [setO xs o] := by rw [bsTo, if_pos ⟨h0, hm⟩]
          rw [decide_eq_false hm]
          simp (maxSteps := 2000000) only [s45, ↓Za, ↓Zi, ↓Zn, ↓Zg, ↓Zl, ↓Zw, ↓Zb, ↓Zc, ↓Zh, ↓Zd, ↓Zf, ↓vdn, vup, Zs, Zr, Zo, Zt, Zp, List.map_cons, List.map_nil, cond_true, cond_false, aop, Zk, Zu, Zv, ev, sput, Zj, Yb, Yc, unK, Ze, Ya, Nat.reduceBEq, Nat.reduceAdd, Int.reduceBEq, Int.reduceBNe, Int.reduceLT, Zy, Yf, tup, tyf, Bool.not_false]
          refine hN16 [(0, v), (2, .pointer (some ⟨h.length, 0, none⟩)), (3, .int .i64 0), (4, sv), (5, Zm (o : Nat)), (6, Zm (setO xs o : Nat)), (14, Zm (o : Nat)), (40, .bool true)] _ _ ?_ (by simp (maxSteps := 2000000) only [↓Za, ↓Zi, ↓Zn, ↓Zg, ↓Zl, ↓Zw, ↓Zb, ↓Zc, ↓Zh, ↓Zd, ↓Zf, ↓vdn, vup, Zs, Zr, Zo, Zt, Zp, List.map_cons, List.map_nil, cond_true, cond_false, aop, Zk, Zu, Zv, ev, sput, Zj, Yb, Yc, unK, Ze, Ya, Nat.reduceBEq, Nat.reduceAdd, Int.reduceBEq, Int.reduceBNe, Int.reduceLT, Zy, Yf, tup, tyf])
          clear hN16
          try clear N16
          refine Xh rfl ?_
          refine Ye ?_
          simp (maxSteps := 2000000) only [s45, ↓Za, ↓Zi, ↓Zn, ↓Zg, ↓Zl, ↓Zw, ↓Zb, ↓Zc, ↓Zh, ↓Zd, ↓Zf, ↓vdn, vup, Zs, Zr, Zo, Zt, Zp, List.map_cons, List.map_nil, cond_true, cond_false, aop, Zk, Zu, Zv, ev, sput, Zj, Yb, Yc, unK, Ze, Ya, Nat.reduceBEq, Nat.reduceAdd, Int.reduceBEq, Int.reduceBNe, Int.reduceLT, Zy, Yf, tup, tyf, litI1]
          refine hsv.push (by omega) fun sv' G' hs' => ?_
          refine nxt G' sv' ?_ _ (by simp (maxSteps := 2000000) only [↓Za, ↓Zi, ↓Zn, ↓Zg, ↓Zl, ↓Zw, ↓Zb, ↓Zc, ↓Zh, ↓Zd, ↓Zf, ↓vdn, vup, Zs, Zr, Zo, Zt, Zp, List.map_cons, List.map_nil, cond_true, cond_false, aop, Zk, Zu, Zv, ev, sput, Zj, Yb, Yc, unK, Ze, Ya, Nat.reduceBEq, Nat.reduceAdd, Int.reduceBEq, Int.reduceBNe, Int.reduceLT, Zy, Yf, tup, tyf])
          rw [e, iL, List.map_append]; exact hs'
    obtain rfl : o = 8 := by omega
    refine Zx fun N17 hN17 => ?_
    simp (maxSteps := 2000000) only [s45, ↓Za, ↓Zi, ↓Zn, ↓Zg, ↓Zl, ↓Zw, ↓Zb, ↓Zc, ↓Zh, ↓Zd, ↓Zf, ↓vdn, vup, Zs, Zr, Zo, Zt, Zp, List.map_cons, List.map_nil, cond_true, cond_false, aop, Zk, Zu, Zv, ev, sput, Zj, Yb, Yc, unK, Ze, Ya, Nat.reduceBEq, Nat.reduceAdd, Int.reduceBEq, Int.reduceBNe, Int.reduceLT, Zy, Yf, tup, tyf, hon]
    refine hN17 [(0, v), (2, .pointer (some ⟨h.length, 0, none⟩)), (3, .int .i64 0), (4, sv), (14, Zm (8 : Nat)), (15, .bool false)] _ _ ?_ (by simp (maxSteps := 2000000) only [↓Za, ↓Zi, ↓Zn, ↓Zg, ↓Zl, ↓Zw, ↓Zb, ↓Zc, ↓Zh, ↓Zd, ↓Zf, ↓vdn, vup, Zs, Zr, Zo, Zt, Zp, List.map_cons, List.map_nil, cond_true, cond_false, aop, Zk, Zu, Zv, ev, sput, Zj, Yb, Yc, unK, Ze, Ya, Nat.reduceBEq, Nat.reduceAdd, Int.reduceBEq, Int.reduceBNe, Int.reduceLT, Zy, Yf, tup, tyf])
    clear hN17
    try clear N17
    refine Zx fun N18 hN18 => ?_
    simp (maxSteps := 2000000) only [s45, ↓Za, ↓Zi, ↓Zn, ↓Zg, ↓Zl, ↓Zw, ↓Zb, ↓Zc, ↓Zh, ↓Zd, ↓Zf, ↓vdn, vup, Zs, Zr, Zo, Zt, Zp, List.map_cons, List.map_nil, cond_true, cond_false, aop, Zk, Zu, Zv, ev, sput, Zj, Yb, Yc, unK, Ze, Ya, Nat.reduceBEq, Nat.reduceAdd, Int.reduceBEq, Int.reduceBNe, Int.reduceLT, Zy, Yf, tup, tyf]
    refine hQ2 _ _ _ (hQ _ _ _ ?_)
    simp (maxSteps := 2000000) only [s45, ↓Za, ↓Zi, ↓Zn, ↓Zg, ↓Zl, ↓Zw, ↓Zb, ↓Zc, ↓Zh, ↓Zd, ↓Zf, ↓vdn, vup, Zs, Zr, Zo, Zt, Zp, List.map_cons, List.map_nil, cond_true, cond_false, aop, Zk, Zu, Zv, ev, sput, Zj, Yb, Yc, unK, Ze, Ya, Nat.reduceBEq, Nat.reduceAdd, Int.reduceBEq, Int.reduceBNe, Int.reduceLT, Zy, Yf, tup, tyf, if_true]
    refine hZ [(0, v), (2, .pointer (some ⟨h.length, 0, none⟩)), (3, .int .i64 0), (4, sv)] _ _ ?_ (by simp (maxSteps := 2000000) only [↓Za, ↓Zi, ↓Zn, ↓Zg, ↓Zl, ↓Zw, ↓Zb, ↓Zc, ↓Zh, ↓Zd, ↓Zf, ↓vdn, vup, Zs, Zr, Zo, Zt, Zp, List.map_cons, List.map_nil, cond_true, cond_false, aop, Zk, Zu, Zv, ev, sput, Zj, Yb, Yc, unK, Ze, Ya, Nat.reduceBEq, Nat.reduceAdd, Int.reduceBEq, Int.reduceBNe, Int.reduceLT, Zy, Yf, tup, tyf])
    clear hZ
    try clear Z
    clear hQ hQ2
    have hcG := (hsv.2.1.2 _ (Xc hc) id).trans hc
    refine Zx fun N19 hN19 => ?_
    simp (maxSteps := 2000000) only [s45, ↓Za, ↓Zi, ↓Zn, ↓Zg, ↓Zl, ↓Zw, ↓Zb, ↓Zc, ↓Zh, ↓Zd, ↓Zf, ↓vdn, vup, Zs, Zr, Zo, Zt, Zp, List.map_cons, List.map_nil, cond_true, cond_false, aop, Zk, Zu, Zv, ev, sput, Zj, Yb, Yc, unK, Ze, Ya, Nat.reduceBEq, Nat.reduceAdd, Int.reduceBEq, Int.reduceBNe, Int.reduceLT, Zy, Yf, tup, tyf, Xd, List.nil_append, List.append_nil, List.toList_toArray, List.cons_append, hvG.len]
    refine (packing_call (n := xs.length) (sets := bsTo xs 8) hsv.1.int (bs_ne c) h1n h6 bs_lt (by have := bsTo_len xs 8; omega) (bs_cover c)).mono ?_
    rintro r1 h1 ⟨hE1, q, hq1, hq, _⟩
    subst hq1
    simp (maxSteps := 2000000) only [s45, ↓Za, ↓Zi, ↓Zn, ↓Zg, ↓Zl, ↓Zw, ↓Zb, ↓Zc, ↓Zh, ↓Zd, ↓Zf, ↓vdn, vup, Zs, Zr, Zo, Zt, Zp, List.map_cons, List.map_nil, cond_true, cond_false, aop, Zk, Zu, Zv, ev, sput, Zj, Yb, Yc, unK, Ze, Ya, Nat.reduceBEq, Nat.reduceAdd, Int.reduceBEq, Int.reduceBNe, Int.reduceLT, Zy, Yf, tup, tyf, qV, frV, Wz, Wa, zero_44, newF]
    have hE2 : Ext (fun _ => False) H (h1 ++ [Blk.cells [Zm q.num, Zm q.den] 44 false]) := (hsv.2.1.trans hE1).trans (Ext.app _ _ _)
    have c9 := Xn h1 (Blk.cells [Zm q.num, Zm q.den] 44 false)
    generalize h1 ++ [Blk.cells [Zm q.num, Zm q.den] 44 false] = H1 at hE2 c9 ⊢
    generalize h1.length = b9 at c9 ⊢
    refine hN19 [(0, v), (2, .pointer (some ⟨h.length, 0, none⟩)), (3, .int .i64 0), (4, sv), (9, .pointer (some ⟨b9, 0, none⟩))] _ _ ?_ (by simp (maxSteps := 2000000) only [↓Za, ↓Zi, ↓Zn, ↓Zg, ↓Zl, ↓Zw, ↓Zb, ↓Zc, ↓Zh, ↓Zd, ↓Zf, ↓vdn, vup, Zs, Zr, Zo, Zt, Zp, List.map_cons, List.map_nil, cond_true, cond_false, aop, Zk, Zu, Zv, ev, sput, Zj, Yb, Yc, unK, Ze, Ya, Nat.reduceBEq, Nat.reduceAdd, Int.reduceBEq, Int.reduceBNe, Int.reduceLT, Zy, Yf, tup, tyf])
    clear hN19
    try clear N19
    have hc1 := (hE2.2 _ (Xc hc) id).trans hc
    refine Ye ?_
    simp (maxSteps := 2000000) only [s45, ↓Za, ↓Zi, ↓Zn, ↓Zg, ↓Zl, ↓Zw, ↓Zb, ↓Zc, ↓Zh, ↓Zd, ↓Zf, ↓vdn, vup, Zs, Zr, Zo, Zt, Zp, List.map_cons, List.map_nil, cond_true, cond_false, aop, Zk, Zu, Zv, ev, sput, Zj, Yb, Yc, unK, Ze, Ya, Nat.reduceBEq, Nat.reduceAdd, Int.reduceBEq, Int.reduceBNe, Int.reduceLT, Zy, Yf, tup, tyf, fA0, fA1, loadF0 c9, loadF1 c9, bldF, storeF hc1 rfl, loadF (get_set (Xc hc1) _)]
    exact ⟨(hE0.trans hE2).set_ge (Nat.le_refl _) _, by rw [hch, if_pos rfl]; exact ⟨q, rfl, hq⟩⟩

theorem s13_callW [Tabs Tryd.prog] {args : List Value} {h : Zz} {Q : Value → Zz → Prop} (hsz : args.length ≤ 110) (hk : AWS Tryd.prog 110 s13 (Zy Tryd.prog [.tmp 2] Q) (Zv 0 args) h) : ACall Tryd.prog 13 args h Q :=
  Xr Tryd.func13 rfl (enters_of Tryd.func13 (by kernel_rfl) rfl) rfl rfl (by decide) s13_strip s13_ok hsz hk
theorem law_back [BitTab prog 0] {h : Zz} {v : Value} {xs : List Int} (hv : IntSl h v xs) (hl : xs.length < 9223372036854775808) (hx : ∀ x ∈ xs, -9223372036854775808 ≤ x ∧ x < 9223372036854775808) :
    ACall prog 13 [v] h fun r _ => r = .bool true := by
  have e00 : ((0 : Int) == 0) = true := rfl
  have e22 : ((2 : Int) == 2) = true := rfl
  have n00 : ((0 : Int) != 0) = false := rfl
  have n20 : ((2 : Int) != 0) = true := rfl
  have ht7 : (xs.take 80).length < 9223372036854775807 := by rw [List.length_take]; omega
  refine s13_callW (by simp) ?_
  simp only [s13]
  refine Zx fun N20 hN20 => ?_
  simp (maxSteps := 2000000) only [s13, ↓Za, ↓Zi, ↓Zn, ↓Zg, ↓Zl, ↓Zw, ↓Zb, ↓Zc, ↓Zh, ↓Zd, ↓Zf, ↓vdn, vup, Zs, Zr, Zo, Zt, Zp, List.map_cons, List.map_nil, cond_true, cond_false, aop, Zk, Zu, Zv, ev, sput, Zj, Yb, Yc, unK, Ze, Ya, Nat.reduceBEq, Nat.reduceAdd, Int.reduceBEq, Int.reduceBNe, Int.reduceLT, Zy, Yf, tup, tyf]
  refine hN20 [(0, v), (2, .bool false)] _ _ ?_ (by simp (maxSteps := 2000000) only [↓Za, ↓Zi, ↓Zn, ↓Zg, ↓Zl, ↓Zw, ↓Zb, ↓Zc, ↓Zh, ↓Zd, ↓Zf, ↓vdn, vup, Zs, Zr, Zo, Zt, Zp, List.map_cons, List.map_nil, cond_true, cond_false, aop, Zk, Zu, Zv, ev, sput, Zj, Yb, Yc, unK, Ze, Ya, Nat.reduceBEq, Nat.reduceAdd, Int.reduceBEq, Int.reduceBNe, Int.reduceLT, Zy, Yf, tup, tyf])
  clear hN20
  try clear N20
  refine Zx fun N21 hN21 => ?_
  simp (maxSteps := 2000000) only [s13, ↓Za, ↓Zi, ↓Zn, ↓Zg, ↓Zl, ↓Zw, ↓Zb, ↓Zc, ↓Zh, ↓Zd, ↓Zf, ↓vdn, vup, Zs, Zr, Zo, Zt, Zp, List.map_cons, List.map_nil, cond_true, cond_false, aop, Zk, Zu, Zv, ev, sput, Zj, Yb, Yc, unK, Ze, Ya, Nat.reduceBEq, Nat.reduceAdd, Int.reduceBEq, Int.reduceBNe, Int.reduceLT, Zy, Yf, tup, tyf, Xd, List.nil_append, List.append_nil, List.toList_toArray, List.cons_append]
  refine (list_call hv hl).mono ?_
  rintro l1 _ ⟨hl1, g1, rfl⟩
  refine (back_call hl1 ht7).mono ?_
  rintro r1 h1 ⟨hE1, hr1⟩
  rw [chB_take] at hr1
  cases hc : chB xs with
  | false =>
    rw [hc, if_neg (by decide)] at hr1
    subst hr1
    simp (maxSteps := 2000000) only [s13, ↓Za, ↓Zi, ↓Zn, ↓Zg, ↓Zl, ↓Zw, ↓Zb, ↓Zc, ↓Zh, ↓Zd, ↓Zf, ↓vdn, vup, Zs, Zr, Zo, Zt, Zp, List.map_cons, List.map_nil, cond_true, cond_false, aop, Zk, Zu, Zv, ev, sput, Zj, Yb, Yc, unK, Ze, Ya, Nat.reduceBEq, Nat.reduceAdd, Int.reduceBEq, Int.reduceBNe, Int.reduceLT, Zy, Yf, tup, tyf, frV, Wz, Wa, zero_44, newF]
    refine hN21 [(0, v), (2, .bool false), (3, .pointer (some ⟨h1.length, 0, none⟩)), (4, .int .i64 2)] _ _ ?_ (by simp (maxSteps := 2000000) only [↓Za, ↓Zi, ↓Zn, ↓Zg, ↓Zl, ↓Zw, ↓Zb, ↓Zc, ↓Zh, ↓Zd, ↓Zf, ↓vdn, vup, Zs, Zr, Zo, Zt, Zp, List.map_cons, List.map_nil, cond_true, cond_false, aop, Zk, Zu, Zv, ev, sput, Zj, Yb, Yc, unK, Ze, Ya, Nat.reduceBEq, Nat.reduceAdd, Int.reduceBEq, Int.reduceBNe, Int.reduceLT, Zy, Yf, tup, tyf])
    clear hN21
    try clear N21
    refine Yd fun A hA => ?_
    refine Zx fun N22 hN22 => ?_
    simp (maxSteps := 2000000) only [s13, ↓Za, ↓Zi, ↓Zn, ↓Zg, ↓Zl, ↓Zw, ↓Zb, ↓Zc, ↓Zh, ↓Zd, ↓Zf, ↓vdn, vup, Zs, Zr, Zo, Zt, Zp, List.map_cons, List.map_nil, cond_true, cond_false, aop, Zk, Zu, Zv, ev, sput, Zj, Yb, Yc, unK, Ze, Ya, Nat.reduceBEq, Nat.reduceAdd, Int.reduceBEq, Int.reduceBNe, Int.reduceLT, Zy, Yf, tup, tyf, n20]
    refine hN22 [(0, v), (2, .bool false), (3, .pointer (some ⟨h1.length, 0, none⟩)), (4, .int .i64 2), (24, .bool true)] _ _ ?_ (by simp (maxSteps := 2000000) only [↓Za, ↓Zi, ↓Zn, ↓Zg, ↓Zl, ↓Zw, ↓Zb, ↓Zc, ↓Zh, ↓Zd, ↓Zf, ↓vdn, vup, Zs, Zr, Zo, Zt, Zp, List.map_cons, List.map_nil, cond_true, cond_false, aop, Zk, Zu, Zv, ev, sput, Zj, Yb, Yc, unK, Ze, Ya, Nat.reduceBEq, Nat.reduceAdd, Int.reduceBEq, Int.reduceBNe, Int.reduceLT, Zy, Yf, tup, tyf])
    clear hN22
    try clear N22
    refine Xh rfl ?_
    refine Ye ?_
    simp (maxSteps := 2000000) only [s13, ↓Za, ↓Zi, ↓Zn, ↓Zg, ↓Zl, ↓Zw, ↓Zb, ↓Zc, ↓Zh, ↓Zd, ↓Zf, ↓vdn, vup, Zs, Zr, Zo, Zt, Zp, List.map_cons, List.map_nil, cond_true, cond_false, aop, Zk, Zu, Zv, ev, sput, Zj, Yb, Yc, unK, Ze, Ya, Nat.reduceBEq, Nat.reduceAdd, Int.reduceBEq, Int.reduceBNe, Int.reduceLT, Zy, Yf, tup, tyf, e22, Xd, List.nil_append, List.append_nil, List.toList_toArray, List.cons_append]
    refine awk fun g _ => ?_
    trivial
  | true =>
    have c := Va.1 hc
    have h6 := c.2.1
    rw [hc, if_pos rfl] at hr1
    obtain ⟨q, rfl, hq⟩ := hr1
    have hq : BQ xs q := by rw [chB_same hc] at hq; exact hq
    simp (maxSteps := 2000000) only [s13, ↓Za, ↓Zi, ↓Zn, ↓Zg, ↓Zl, ↓Zw, ↓Zb, ↓Zc, ↓Zh, ↓Zd, ↓Zf, ↓vdn, vup, Zs, Zr, Zo, Zt, Zp, List.map_cons, List.map_nil, cond_true, cond_false, aop, Zk, Zu, Zv, ev, sput, Zj, Yb, Yc, unK, Ze, Ya, Nat.reduceBEq, Nat.reduceAdd, Int.reduceBEq, Int.reduceBNe, Int.reduceLT, Zy, Yf, tup, tyf, frV, Wz, Wa, zero_44, newF]
    have hE01 := ((Ext.app (fun _ => False) h g1).trans hE1).trans (Ext.app _ _ [Blk.cells [Zm q.den, Zm q.num] 44 false])
    have c3 := Xn h1 (Blk.cells [Zm q.den, Zm q.num] 44 false)
    generalize h1 ++ [Blk.cells [Zm q.den, Zm q.num] 44 false] = H1 at hE01 c3 ⊢
    generalize h1.length = b3 at c3 ⊢
    refine hN21 [(0, v), (2, .bool false), (3, .pointer (some ⟨b3, 0, none⟩)), (4, .int .i64 0)] _ _ ?_ (by simp (maxSteps := 2000000) only [↓Za, ↓Zi, ↓Zn, ↓Zg, ↓Zl, ↓Zw, ↓Zb, ↓Zc, ↓Zh, ↓Zd, ↓Zf, ↓vdn, vup, Zs, Zr, Zo, Zt, Zp, List.map_cons, List.map_nil, cond_true, cond_false, aop, Zk, Zu, Zv, ev, sput, Zj, Yb, Yc, unK, Ze, Ya, Nat.reduceBEq, Nat.reduceAdd, Int.reduceBEq, Int.reduceBNe, Int.reduceLT, Zy, Yf, tup, tyf])
    clear hN21
    try clear N21
    have hv1 := Wq hv hE01
    refine Yd fun A hA => ?_
    refine Zx fun N23 hN23 => ?_
    simp (maxSteps := 2000000) only [s13, ↓Za, ↓Zi, ↓Zn, ↓Zg, ↓Zl, ↓Zw, ↓Zb, ↓Zc, ↓Zh, ↓Zd, ↓Zf, ↓vdn, vup, Zs, Zr, Zo, Zt, Zp, List.map_cons, List.map_nil, cond_true, cond_false, aop, Zk, Zu, Zv, ev, sput, Zj, Yb, Yc, unK, Ze, Ya, Nat.reduceBEq, Nat.reduceAdd, Int.reduceBEq, Int.reduceBNe, Int.reduceLT, Zy, Yf, tup, tyf, Xd, List.nil_append, List.append_nil, List.toList_toArray, List.cons_append, n00]
    refine (rchan_call hv1 hl).mono ?_
    rintro _ H1 ⟨rfl, rfl⟩
    simp (maxSteps := 2000000) only [s13, ↓Za, ↓Zi, ↓Zn, ↓Zg, ↓Zl, ↓Zw, ↓Zb, ↓Zc, ↓Zh, ↓Zd, ↓Zf, ↓vdn, vup, Zs, Zr, Zo, Zt, Zp, List.map_cons, List.map_nil, cond_true, cond_false, aop, Zk, Zu, Zv, ev, sput, Zj, Yb, Yc, unK, Ze, Ya, Nat.reduceBEq, Nat.reduceAdd, Int.reduceBEq, Int.reduceBNe, Int.reduceLT, Zy, Yf, tup, tyf, hc, Bool.not_true]
    refine hN23 [(0, v), (2, .bool false), (3, .pointer (some ⟨b3, 0, none⟩)), (4, .int .i64 0), (24, .bool false)] _ _ ?_ (by simp (maxSteps := 2000000) only [↓Za, ↓Zi, ↓Zn, ↓Zg, ↓Zl, ↓Zw, ↓Zb, ↓Zc, ↓Zh, ↓Zd, ↓Zf, ↓vdn, vup, Zs, Zr, Zo, Zt, Zp, List.map_cons, List.map_nil, cond_true, cond_false, aop, Zk, Zu, Zv, ev, sput, Zj, Yb, Yc, unK, Ze, Ya, Nat.reduceBEq, Nat.reduceAdd, Int.reduceBEq, Int.reduceBNe, Int.reduceLT, Zy, Yf, tup, tyf])
    clear hN23
    try clear N23
    refine Yv rfl ?_
    refine Ye ?_
    simp (maxSteps := 2000000) only [s13, ↓Za, ↓Zi, ↓Zn, ↓Zg, ↓Zl, ↓Zw, ↓Zb, ↓Zc, ↓Zh, ↓Zd, ↓Zf, ↓vdn, vup, Zs, Zr, Zo, Zt, Zp, List.map_cons, List.map_nil, cond_true, cond_false, aop, Zk, Zu, Zv, ev, sput, Zj, Yb, Yc, unK, Ze, Ya, Nat.reduceBEq, Nat.reduceAdd, Int.reduceBEq, Int.reduceBNe, Int.reduceLT, Zy, Yf, tup, tyf]
    refine hA [(0, v), (2, .bool false), (3, .pointer (some ⟨b3, 0, none⟩))] _ _ ?_ (by simp (maxSteps := 2000000) only [↓Za, ↓Zi, ↓Zn, ↓Zg, ↓Zl, ↓Zw, ↓Zb, ↓Zc, ↓Zh, ↓Zd, ↓Zf, ↓vdn, vup, Zs, Zr, Zo, Zt, Zp, List.map_cons, List.map_nil, cond_true, cond_false, aop, Zk, Zu, Zv, ev, sput, Zj, Yb, Yc, unK, Ze, Ya, Nat.reduceBEq, Nat.reduceAdd, Int.reduceBEq, Int.reduceBNe, Int.reduceLT, Zy, Yf, tup, tyf])
    clear hA
    try clear A
    refine Zx fun N24 hN24 => ?_
    simp (maxSteps := 2000000) only [s13, ↓Za, ↓Zi, ↓Zn, ↓Zg, ↓Zl, ↓Zw, ↓Zb, ↓Zc, ↓Zh, ↓Zd, ↓Zf, ↓vdn, vup, Zs, Zr, Zo, Zt, Zp, List.map_cons, List.map_nil, cond_true, cond_false, aop, Zk, Zu, Zv, ev, sput, Zj, Yb, Yc, unK, Ze, Ya, Nat.reduceBEq, Nat.reduceAdd, Int.reduceBEq, Int.reduceBNe, Int.reduceLT, Zy, Yf, tup, tyf, Xd, List.nil_append, List.append_nil, List.toList_toArray, List.cons_append]
    refine (list_call hv1 hl).mono ?_
    rintro l2 _ ⟨hl2', g2, rfl⟩
    rw [chB_same hc] at hl2'
    refine (conf_call hl2' (by omega)).mono ?_
    rintro r2 h2 ⟨hE2, hr2⟩
    rw [hc, if_pos rfl] at hr2
    obtain ⟨w, rfl, hw⟩ := hr2
    simp (maxSteps := 2000000) only [s13, ↓Za, ↓Zi, ↓Zn, ↓Zg, ↓Zl, ↓Zw, ↓Zb, ↓Zc, ↓Zh, ↓Zd, ↓Zf, ↓vdn, vup, Zs, Zr, Zo, Zt, Zp, List.map_cons, List.map_nil, cond_true, cond_false, aop, Zk, Zu, Zv, ev, sput, Zj, Yb, Yc, unK, Ze, Ya, Nat.reduceBEq, Nat.reduceAdd, Int.reduceBEq, Int.reduceBNe, Int.reduceLT, Zy, Yf, tup, tyf]
    refine hN24 [(0, v), (2, .bool false), (3, .pointer (some ⟨b3, 0, none⟩)), (5, w), (6, .int .i64 0)] _ _ ?_ (by simp (maxSteps := 2000000) only [↓Za, ↓Zi, ↓Zn, ↓Zg, ↓Zl, ↓Zw, ↓Zb, ↓Zc, ↓Zh, ↓Zd, ↓Zf, ↓vdn, vup, Zs, Zr, Zo, Zt, Zp, List.map_cons, List.map_nil, cond_true, cond_false, aop, Zk, Zu, Zv, ev, sput, Zj, Yb, Yc, unK, Ze, Ya, Nat.reduceBEq, Nat.reduceAdd, Int.reduceBEq, Int.reduceBNe, Int.reduceLT, Zy, Yf, tup, tyf])
    clear hN24
    try clear N24
    have g := cfL_gs c
    have hg := grs_iff.2 g
    have hgl := cfL_len xs
    refine Zx fun N25 hN25 => ?_
    simp (maxSteps := 2000000) only [s13, ↓Za, ↓Zi, ↓Zn, ↓Zg, ↓Zl, ↓Zw, ↓Zb, ↓Zc, ↓Zh, ↓Zd, ↓Zf, ↓vdn, vup, Zs, Zr, Zo, Zt, Zp, List.map_cons, List.map_nil, cond_true, cond_false, aop, Zk, Zu, Zv, ev, sput, Zj, Yb, Yc, unK, Ze, Ya, Nat.reduceBEq, Nat.reduceAdd, Int.reduceBEq, Int.reduceBNe, Int.reduceLT, Zy, Yf, tup, tyf, Xd, List.nil_append, List.append_nil, List.toList_toArray, List.cons_append]
    refine (code_call (k := 1) hw (by omega) (gs_rng g)).mono ?_
    rintro r3 h3 ⟨hE3, hr3⟩
    obtain ⟨u, rfl, hu⟩ := code1_ok hg hr3
    simp (maxSteps := 2000000) only [s13, ↓Za, ↓Zi, ↓Zn, ↓Zg, ↓Zl, ↓Zw, ↓Zb, ↓Zc, ↓Zh, ↓Zd, ↓Zf, ↓vdn, vup, Zs, Zr, Zo, Zt, Zp, List.map_cons, List.map_nil, cond_true, cond_false, aop, Zk, Zu, Zv, ev, sput, Zj, Yb, Yc, unK, Ze, Ya, Nat.reduceBEq, Nat.reduceAdd, Int.reduceBEq, Int.reduceBNe, Int.reduceLT, Zy, Yf, tup, tyf]
    refine hN25 [(0, v), (2, .bool false), (3, .pointer (some ⟨b3, 0, none⟩)), (5, w), (6, .int .i64 0), (7, u), (8, .int .i64 0)] _ _ ?_ (by simp (maxSteps := 2000000) only [↓Za, ↓Zi, ↓Zn, ↓Zg, ↓Zl, ↓Zw, ↓Zb, ↓Zc, ↓Zh, ↓Zd, ↓Zf, ↓vdn, vup, Zs, Zr, Zo, Zt, Zp, List.map_cons, List.map_nil, cond_true, cond_false, aop, Zk, Zu, Zv, ev, sput, Zj, Yb, Yc, unK, Ze, Ya, Nat.reduceBEq, Nat.reduceAdd, Int.reduceBEq, Int.reduceBNe, Int.reduceLT, Zy, Yf, tup, tyf])
    clear hN25
    try clear N25
    have hE13 := ((Ext.app (fun _ => False) H1 g2).trans hE2).trans hE3
    have hv3 := Wq hv1 hE13
    have c3' := (hE13.2 _ (Xc c3) id).trans c3
    have lu := hu.int.len
    rw [List.length_map] at lu
    have hcode := back_code c hq
    obtain ⟨X, hX⟩ : ∃ X, X = (codeL (Wc (cfL xs) 1)).length := ⟨_, rfl⟩
    rw [← hX] at lu hcode
    have hX6 : X ≤ 64 := by
      have := A_le (Wc (cfL xs) 1) (2 ^ (Wc (cfL xs) 1).length - 1)
      rw [hX, codeL_len (nearL_gr g (k := 1) (by rw [wn_one]; omega))]; exact this
    refine Zx fun N26 hN26 => ?_
    simp (maxSteps := 2000000) only [s13, ↓Za, ↓Zi, ↓Zn, ↓Zg, ↓Zl, ↓Zw, ↓Zb, ↓Zc, ↓Zh, ↓Zd, ↓Zf, ↓vdn, vup, Zs, Zr, Zo, Zt, Zp, List.map_cons, List.map_nil, cond_true, cond_false, aop, Zk, Zu, Zv, ev, sput, Zj, Yb, Yc, unK, Ze, Ya, Nat.reduceBEq, Nat.reduceAdd, Int.reduceBEq, Int.reduceBNe, Int.reduceLT, Zy, Yf, tup, tyf]
    refine hN26 [(0, v), (2, .bool false), (3, .pointer (some ⟨b3, 0, none⟩)), (5, w), (6, .int .i64 0), (7, u), (8, .int .i64 0), (9, .int .i64 255)] _ _ ?_ (by simp (maxSteps := 2000000) only [↓Za, ↓Zi, ↓Zn, ↓Zg, ↓Zl, ↓Zw, ↓Zb, ↓Zc, ↓Zh, ↓Zd, ↓Zf, ↓vdn, vup, Zs, Zr, Zo, Zt, Zp, List.map_cons, List.map_nil, cond_true, cond_false, aop, Zk, Zu, Zv, ev, sput, Zj, Yb, Yc, unK, Ze, Ya, Nat.reduceBEq, Nat.reduceAdd, Int.reduceBEq, Int.reduceBNe, Int.reduceLT, Zy, Yf, tup, tyf])
    clear hN26
    try clear N26
    refine Yd fun Z hZ => ?_
    refine Zx fun N27 hN27 => ?_
    simp (maxSteps := 2000000) only [s13, ↓Za, ↓Zi, ↓Zn, ↓Zg, ↓Zl, ↓Zw, ↓Zb, ↓Zc, ↓Zh, ↓Zd, ↓Zf, ↓vdn, vup, Zs, Zr, Zo, Zt, Zp, List.map_cons, List.map_nil, cond_true, cond_false, aop, Zk, Zu, Zv, ev, sput, Zj, Yb, Yc, unK, Ze, Ya, Nat.reduceBEq, Nat.reduceAdd, Int.reduceBEq, Int.reduceBNe, Int.reduceLT, Zy, Yf, tup, tyf, hv3.len]
    refine hN27 [(0, v), (2, .bool false), (3, .pointer (some ⟨b3, 0, none⟩)), (5, w), (6, .int .i64 0), (7, u), (8, .int .i64 0), (9, .int .i64 255), (41, v), (42, Zm xs.length), (43, .int .i64 0)] _ _ ?_ (by simp (maxSteps := 2000000) only [↓Za, ↓Zi, ↓Zn, ↓Zg, ↓Zl, ↓Zw, ↓Zb, ↓Zc, ↓Zh, ↓Zd, ↓Zf, ↓vdn, vup, Zs, Zr, Zo, Zt, Zp, List.map_cons, List.map_nil, cond_true, cond_false, aop, Zk, Zu, Zv, ev, sput, Zj, Yb, Yc, unK, Ze, Ya, Nat.reduceBEq, Nat.reduceAdd, Int.reduceBEq, Int.reduceBNe, Int.reduceLT, Zy, Yf, tup, tyf])
    clear hN27
    try clear N27
    refine Yh ?_
    refine Yg fun Q hQ => ?_
    refine Xe (γ := Nat) (fun i => i ≤ xs.length) (fun i => ([(0, v), (2, .bool false), (3, .pointer (some ⟨b3, 0, none⟩)), (5, w), (6, .int .i64 0), (7, u), (8, .int .i64 0), (9, Zm (allO xs i : Nat)), (41, v), (42, Zm xs.length), (43, Zm (i : Nat))], h3)) (fun i => xs.length - i) 0 (Nat.zero_le _) (by simp (maxSteps := 2000000) only [↓Za, ↓Zi, ↓Zn, ↓Zg, ↓Zl, ↓Zw, ↓Zb, ↓Zc, ↓Zh, ↓Zd, ↓Zf, ↓vdn, vup, Zs, Zr, Zo, Zt, Zp, List.map_cons, List.map_nil, cond_true, cond_false, aop, Zk, Zu, Zv, ev, sput, Zj, Yb, Yc, unK, Ze, Ya, Nat.reduceBEq, Nat.reduceAdd, Int.reduceBEq, Int.reduceBNe, Int.reduceLT, Zy, Yf, tup, tyf, Int.natCast_zero, show ((allO xs 0 : Nat) : Int) = 255 from rfl]) rfl ?_
    rintro i hi
    refine Yg fun Q2 hQ2 => ?_
    simp only [l13_0]
    by_cases hin : (i : Int) < xs.length
    · have hi' : i < xs.length := by omega
      obtain ⟨a1, _, a3⟩ := chn_gn c hi'
      have hal := allO_lt xs i
      have hand : Wh .and .i64 ((allO xs i : Nat) : Int) ((gn xs i : Nat) : Int) = ((allO xs (i + 1) : Nat) : Int) := bitsV_and (by omega) (by omega)
      refine Zx fun N28 hN28 => ?_
      simp (maxSteps := 2000000) only [s13, ↓Za, ↓Zi, ↓Zn, ↓Zg, ↓Zl, ↓Zw, ↓Zb, ↓Zc, ↓Zh, ↓Zd, ↓Zf, ↓vdn, vup, Zs, Zr, Zo, Zt, Zp, List.map_cons, List.map_nil, cond_true, cond_false, aop, Zk, Zu, Zv, ev, sput, Zj, Yb, Yc, unK, Ze, Ya, Nat.reduceBEq, Nat.reduceAdd, Int.reduceBEq, Int.reduceBNe, Int.reduceLT, Zy, Yf, tup, tyf, hin]
      refine hN28 [(0, v), (2, .bool false), (3, .pointer (some ⟨b3, 0, none⟩)), (5, w), (6, .int .i64 0), (7, u), (8, .int .i64 0), (9, Zm (allO xs i : Nat)), (41, v), (42, Zm xs.length), (43, Zm (i : Nat)), (44, .bool true)] _ _ ?_ (by simp (maxSteps := 2000000) only [↓Za, ↓Zi, ↓Zn, ↓Zg, ↓Zl, ↓Zw, ↓Zb, ↓Zc, ↓Zh, ↓Zd, ↓Zf, ↓vdn, vup, Zs, Zr, Zo, Zt, Zp, List.map_cons, List.map_nil, cond_true, cond_false, aop, Zk, Zu, Zv, ev, sput, Zj, Yb, Yc, unK, Ze, Ya, Nat.reduceBEq, Nat.reduceAdd, Int.reduceBEq, Int.reduceBNe, Int.reduceLT, Zy, Yf, tup, tyf])
      clear hN28
      try clear N28
      refine Zx fun N29 hN29 => ?_
      simp (maxSteps := 2000000) only [s13, ↓Za, ↓Zi, ↓Zn, ↓Zg, ↓Zl, ↓Zw, ↓Zb, ↓Zc, ↓Zh, ↓Zd, ↓Zf, ↓vdn, vup, Zs, Zr, Zo, Zt, Zp, List.map_cons, List.map_nil, cond_true, cond_false, aop, Zk, Zu, Zv, ev, sput, Zj, Yb, Yc, unK, Ze, Ya, Nat.reduceBEq, Nat.reduceAdd, Int.reduceBEq, Int.reduceBNe, Int.reduceLT, Zy, Yf, tup, tyf]
      refine hN29 [(0, v), (2, .bool false), (3, .pointer (some ⟨b3, 0, none⟩)), (5, w), (6, .int .i64 0), (7, u), (8, .int .i64 0), (9, Zm (allO xs i : Nat)), (41, v), (42, Zm xs.length), (43, Zm (i : Nat))] _ _ ?_ (by simp (maxSteps := 2000000) only [↓Za, ↓Zi, ↓Zn, ↓Zg, ↓Zl, ↓Zw, ↓Zb, ↓Zc, ↓Zh, ↓Zd, ↓Zf, ↓vdn, vup, Zs, Zr, Zo, Zt, Zp, List.map_cons, List.map_nil, cond_true, cond_false, aop, Zk, Zu, Zv, ev, sput, Zj, Yb, Yc, unK, Ze, Ya, Nat.reduceBEq, Nat.reduceAdd, Int.reduceBEq, Int.reduceBNe, Int.reduceLT, Zy, Yf, tup, tyf])
      clear hN29
      try clear N29
      refine Yd fun B hB => ?_
      refine Yh ?_
      refine Zx fun N30 hN30 => ?_
      simp (maxSteps := 2000000) only [s13, ↓Za, ↓Zi, ↓Zn, ↓Zg, ↓Zl, ↓Zw, ↓Zb, ↓Zc, ↓Zh, ↓Zd, ↓Zf, ↓vdn, vup, Zs, Zr, Zo, Zt, Zp, List.map_cons, List.map_nil, cond_true, cond_false, aop, Zk, Zu, Zv, ev, sput, Zj, Yb, Yc, unK, Ze, Ya, Nat.reduceBEq, Nat.reduceAdd, Int.reduceBEq, Int.reduceBNe, Int.reduceLT, Zy, Yf, tup, tyf, hv3.idx Xs Xg hi', hv3.load Xj hi', a1]
      refine hN30 [(0, v), (2, .bool false), (3, .pointer (some ⟨b3, 0, none⟩)), (5, w), (6, .int .i64 0), (7, u), (8, .int .i64 0), (9, Zm (allO xs i : Nat)), (11, Zm (gn xs i : Nat)), (41, v), (42, Zm xs.length), (43, Zm (i : Nat))] _ _ ?_ (by simp (maxSteps := 2000000) only [↓Za, ↓Zi, ↓Zn, ↓Zg, ↓Zl, ↓Zw, ↓Zb, ↓Zc, ↓Zh, ↓Zd, ↓Zf, ↓vdn, vup, Zs, Zr, Zo, Zt, Zp, List.map_cons, List.map_nil, cond_true, cond_false, aop, Zk, Zu, Zv, ev, sput, Zj, Yb, Yc, unK, Ze, Ya, Nat.reduceBEq, Nat.reduceAdd, Int.reduceBEq, Int.reduceBNe, Int.reduceLT, Zy, Yf, tup, tyf])
      clear hN30
      try clear N30
      refine Ye ?_
      simp (maxSteps := 2000000) only [s13, ↓Za, ↓Zi, ↓Zn, ↓Zg, ↓Zl, ↓Zw, ↓Zb, ↓Zc, ↓Zh, ↓Zd, ↓Zf, ↓vdn, vup, Zs, Zr, Zo, Zt, Zp, List.map_cons, List.map_nil, cond_true, cond_false, aop, Zk, Zu, Zv, ev, sput, Zj, Yb, Yc, unK, Ze, Ya, Nat.reduceBEq, Nat.reduceAdd, Int.reduceBEq, Int.reduceBNe, Int.reduceLT, Zy, Yf, tup, tyf, hand]
      refine hB [(0, v), (2, .bool false), (3, .pointer (some ⟨b3, 0, none⟩)), (5, w), (6, .int .i64 0), (7, u), (8, .int .i64 0), (9, Zm (allO xs (i + 1) : Nat)), (41, v), (42, Zm xs.length), (43, Zm (i : Nat))] _ _ ?_ (by simp (maxSteps := 2000000) only [↓Za, ↓Zi, ↓Zn, ↓Zg, ↓Zl, ↓Zw, ↓Zb, ↓Zc, ↓Zh, ↓Zd, ↓Zf, ↓vdn, vup, Zs, Zr, Zo, Zt, Zp, List.map_cons, List.map_nil, cond_true, cond_false, aop, Zk, Zu, Zv, ev, sput, Zj, Yb, Yc, unK, Ze, Ya, Nat.reduceBEq, Nat.reduceAdd, Int.reduceBEq, Int.reduceBNe, Int.reduceLT, Zy, Yf, tup, tyf])
      clear hB
      try clear B
      refine Ye ?_
      simp (maxSteps := 2000000) only [s13, ↓Za, ↓Zi, ↓Zn, ↓Zg, ↓Zl, ↓Zw, ↓Zb, ↓Zc, ↓Zh, ↓Zd, ↓Zf, ↓vdn, vup, Zs, Zr, Zo, Zt, Zp, List.map_cons, List.map_nil, cond_true, cond_false, aop, Zk, Zu, Zv, ev, sput, Zj, Yb, Yc, unK, Ze, Ya, Nat.reduceBEq, Nat.reduceAdd, Int.reduceBEq, Int.reduceBNe, Int.reduceLT, Zy, Yf, tup, tyf, add1 (show i < 9223372036854775807 by omega)]
      exact hQ2 _ _ _ ⟨i + 1, hi', by omega, by simp (maxSteps := 2000000) only [↓Za, ↓Zi, ↓Zn, ↓Zg, ↓Zl, ↓Zw, ↓Zb, ↓Zc, ↓Zh, ↓Zd, ↓Zf, ↓vdn, vup, Zs, Zr, Zo, Zt, Zp, List.map_cons, List.map_nil, cond_true, cond_false, aop, Zk, Zu, Zv, ev, sput, Zj, Yb, Yc, unK, Ze, Ya, Nat.reduceBEq, Nat.reduceAdd, Int.reduceBEq, Int.reduceBNe, Int.reduceLT, Zy, Yf, tup, tyf], rfl⟩
    obtain rfl : i = xs.length := by omega
    refine Zx fun N31 hN31 => ?_
    simp (maxSteps := 2000000) only [s13, ↓Za, ↓Zi, ↓Zn, ↓Zg, ↓Zl, ↓Zw, ↓Zb, ↓Zc, ↓Zh, ↓Zd, ↓Zf, ↓vdn, vup, Zs, Zr, Zo, Zt, Zp, List.map_cons, List.map_nil, cond_true, cond_false, aop, Zk, Zu, Zv, ev, sput, Zj, Yb, Yc, unK, Ze, Ya, Nat.reduceBEq, Nat.reduceAdd, Int.reduceBEq, Int.reduceBNe, Int.reduceLT, Zy, Yf, tup, tyf, hin]
    refine hN31 [(0, v), (2, .bool false), (3, .pointer (some ⟨b3, 0, none⟩)), (5, w), (6, .int .i64 0), (7, u), (8, .int .i64 0), (9, Zm (allO xs xs.length : Nat)), (41, v), (42, Zm xs.length), (43, Zm xs.length), (44, .bool false)] _ _ ?_ (by simp (maxSteps := 2000000) only [↓Za, ↓Zi, ↓Zn, ↓Zg, ↓Zl, ↓Zw, ↓Zb, ↓Zc, ↓Zh, ↓Zd, ↓Zf, ↓vdn, vup, Zs, Zr, Zo, Zt, Zp, List.map_cons, List.map_nil, cond_true, cond_false, aop, Zk, Zu, Zv, ev, sput, Zj, Yb, Yc, unK, Ze, Ya, Nat.reduceBEq, Nat.reduceAdd, Int.reduceBEq, Int.reduceBNe, Int.reduceLT, Zy, Yf, tup, tyf])
    clear hN31
    try clear N31
    refine Zx fun N32 hN32 => ?_
    simp (maxSteps := 2000000) only [s13, ↓Za, ↓Zi, ↓Zn, ↓Zg, ↓Zl, ↓Zw, ↓Zb, ↓Zc, ↓Zh, ↓Zd, ↓Zf, ↓vdn, vup, Zs, Zr, Zo, Zt, Zp, List.map_cons, List.map_nil, cond_true, cond_false, aop, Zk, Zu, Zv, ev, sput, Zj, Yb, Yc, unK, Ze, Ya, Nat.reduceBEq, Nat.reduceAdd, Int.reduceBEq, Int.reduceBNe, Int.reduceLT, Zy, Yf, tup, tyf]
    refine hQ2 _ _ _ (hQ _ _ _ ?_)
    simp (maxSteps := 2000000) only [s13, ↓Za, ↓Zi, ↓Zn, ↓Zg, ↓Zl, ↓Zw, ↓Zb, ↓Zc, ↓Zh, ↓Zd, ↓Zf, ↓vdn, vup, Zs, Zr, Zo, Zt, Zp, List.map_cons, List.map_nil, cond_true, cond_false, aop, Zk, Zu, Zv, ev, sput, Zj, Yb, Yc, unK, Ze, Ya, Nat.reduceBEq, Nat.reduceAdd, Int.reduceBEq, Int.reduceBNe, Int.reduceLT, Zy, Yf, tup, tyf, if_true]
    refine hZ [(0, v), (2, .bool false), (3, .pointer (some ⟨b3, 0, none⟩)), (5, w), (6, .int .i64 0), (7, u), (8, .int .i64 0), (9, Zm (allO xs xs.length : Nat))] _ _ ?_ (by simp (maxSteps := 2000000) only [↓Za, ↓Zi, ↓Zn, ↓Zg, ↓Zl, ↓Zw, ↓Zb, ↓Zc, ↓Zh, ↓Zd, ↓Zf, ↓vdn, vup, Zs, Zr, Zo, Zt, Zp, List.map_cons, List.map_nil, cond_true, cond_false, aop, Zk, Zu, Zv, ev, sput, Zj, Yb, Yc, unK, Ze, Ya, Nat.reduceBEq, Nat.reduceAdd, Int.reduceBEq, Int.reduceBNe, Int.reduceLT, Zy, Yf, tup, tyf])
    clear hZ
    try clear Z
    clear hQ hQ2
    obtain ⟨n1, n2, n3⟩ := back_num c hq
    have hdp : 0 < (q.den : Int) := by have := q.den_pos; omega
    have i1 : 1 ≤ q.num := by omega
    have i2 : q.num ≤ 1000 := by omega
    have i3 : 1 ≤ (q.den : Int) := by omega
    have hdb : (q.den : Int).natAbs ≤ 540 := by omega
    have m1 := mulB hdb (b := (xs.length : Int)) (B := 6) (by omega) (by decide)
    have m2 := mulB (a := (X : Int)) (A := 64) (by omega) hdb (by decide)
    obtain ⟨b, hb⟩ : ∃ b, b = decide (allO xs xs.length ≠ 0) := ⟨_, rfl⟩
    have hbA : (((allO xs xs.length : Nat) : Int) != 0) = b := by
      rw [hb, Bool.eq_iff_iff, bne_iff_ne, decide_eq_true_eq]; omega
    have hbQ : (([(q.den : Int), q.num] : List Int) == [1, 1]) = b := by
      rw [hb, Bool.eq_iff_iff, beq_iff_eq, decide_eq_true_eq, ← back_one c hq]
      constructor
      · intro h
        simp only [List.cons.injEq, and_true] at h
        have := Rat.num_divInt_den q
        rw [h.1, h.2] at this
        rw [← this]; decide +kernel
      · intro h; rw [h]; rfl
    refine Zx fun N33 hN33 => ?_
    simp only [q13_12]
    refine aw_regcut 7 fun N1 hN1 => ?_
    simp (maxSteps := 2000000) only [s13, ↓Za, ↓Zi, ↓Zn, ↓Zg, ↓Zl, ↓Zw, ↓Zb, ↓Zc, ↓Zh, ↓Zd, ↓Zf, ↓vdn, vup, Zs, Zr, Zo, Zt, Zp, List.map_cons, List.map_nil, cond_true, cond_false, aop, Zk, Zu, Zv, ev, sput, Zj, Yb, Yc, unK, Ze, Ya, Nat.reduceBEq, Nat.reduceAdd, Int.reduceBEq, Int.reduceBNe, Int.reduceLT, Zy, Yf, tup, tyf, List.take_succ_cons, List.take_zero, e00]
    refine hN1 _ _ ?_
    clear hN1 N1
    simp only [List.drop_succ_cons, List.drop_zero]
    refine aw_regcut 10 fun N1 hN1 => ?_
    simp (maxSteps := 2000000) only [s13, ↓Za, ↓Zi, ↓Zn, ↓Zg, ↓Zl, ↓Zw, ↓Zb, ↓Zc, ↓Zh, ↓Zd, ↓Zf, ↓vdn, vup, Zs, Zr, Zo, Zt, Zp, List.map_cons, List.map_nil, cond_true, cond_false, aop, Zk, Zu, Zv, ev, sput, Zj, Yb, Yc, unK, Ze, Ya, Nat.reduceBEq, Nat.reduceAdd, Int.reduceBEq, Int.reduceBNe, Int.reduceLT, Zy, Yf, tup, tyf, List.take_succ_cons, List.take_zero, fA1, loadF1 c3', ge_iff_le, i1, i2]
    refine hN1 _ _ ?_
    clear hN1 N1
    simp only [List.drop_succ_cons, List.drop_zero]
    refine aw_regcut 12 fun N1 hN1 => ?_
    simp (maxSteps := 2000000) only [s13, ↓Za, ↓Zi, ↓Zn, ↓Zg, ↓Zl, ↓Zw, ↓Zb, ↓Zc, ↓Zh, ↓Zd, ↓Zf, ↓vdn, vup, Zs, Zr, Zo, Zt, Zp, List.map_cons, List.map_nil, cond_true, cond_false, aop, Zk, Zu, Zv, ev, sput, Zj, Yb, Yc, unK, Ze, Ya, Nat.reduceBEq, Nat.reduceAdd, Int.reduceBEq, Int.reduceBNe, Int.reduceLT, Zy, Yf, tup, tyf, List.take_succ_cons, List.take_zero, fA0, fA1, loadF0 c3', loadF1 c3', ge_iff_le, i3, n1]
    refine hN1 _ _ ?_
    clear hN1 N1
    simp only [List.drop_succ_cons, List.drop_zero]
    refine aw_regcut 10 fun N1 hN1 => ?_
    simp (maxSteps := 2000000) only [s13, ↓Za, ↓Zi, ↓Zn, ↓Zg, ↓Zl, ↓Zw, ↓Zb, ↓Zc, ↓Zh, ↓Zd, ↓Zf, ↓vdn, vup, Zs, Zr, Zo, Zt, Zp, List.map_cons, List.map_nil, cond_true, cond_false, aop, Zk, Zu, Zv, ev, sput, Zj, Yb, Yc, unK, Ze, Ya, Nat.reduceBEq, Nat.reduceAdd, Int.reduceBEq, Int.reduceBNe, Int.reduceLT, Zy, Yf, tup, tyf, List.take_succ_cons, List.take_zero, fA0, fA1, loadF0 c3', loadF1 c3', hv3.len, m1.1, ge_iff_le, n3]
    refine hN1 _ _ ?_
    clear hN1 N1
    simp only [List.drop_succ_cons, List.drop_zero]
    refine aw_regcut 8 fun N1 hN1 => ?_
    simp (maxSteps := 2000000) only [s13, ↓Za, ↓Zi, ↓Zn, ↓Zg, ↓Zl, ↓Zw, ↓Zb, ↓Zc, ↓Zh, ↓Zd, ↓Zf, ↓vdn, vup, Zs, Zr, Zo, Zt, Zp, List.map_cons, List.map_nil, cond_true, cond_false, aop, Zk, Zu, Zv, ev, sput, Zj, Yb, Yc, unK, Ze, Ya, Nat.reduceBEq, Nat.reduceAdd, Int.reduceBEq, Int.reduceBNe, Int.reduceLT, Zy, Yf, tup, tyf, List.take_succ_cons, List.take_zero, loadF c3', bldF, List.toList_toArray, Xi, Option.map_some, List.length_cons, List.length_nil, Nat.zero_add, eqF, hbA, hbQ, beq_self_eq_true]
    refine hN1 _ _ ?_
    clear hN1 N1
    simp only [List.drop_succ_cons, List.drop_zero]
    refine aw_regcut 10 fun N1 hN1 => ?_
    simp (maxSteps := 2000000) only [s13, ↓Za, ↓Zi, ↓Zn, ↓Zg, ↓Zl, ↓Zw, ↓Zb, ↓Zc, ↓Zh, ↓Zd, ↓Zf, ↓vdn, vup, Zs, Zr, Zo, Zt, Zp, List.map_cons, List.map_nil, cond_true, cond_false, aop, Zk, Zu, Zv, ev, sput, Zj, Yb, Yc, unK, Ze, Ya, Nat.reduceBEq, Nat.reduceAdd, Int.reduceBEq, Int.reduceBNe, Int.reduceLT, Zy, Yf, tup, tyf, List.take_succ_cons, List.take_zero, lu, fA0, fA1, loadF0 c3', loadF1 c3', m2.1, hcode]
    refine hN1 _ _ ?_
    clear hN1 N1
    simp only [List.drop_succ_cons, List.drop_zero]
    simp (maxSteps := 2000000) only [s13, ↓Za, ↓Zi, ↓Zn, ↓Zg, ↓Zl, ↓Zw, ↓Zb, ↓Zc, ↓Zh, ↓Zd, ↓Zf, ↓vdn, vup, Zs, Zr, Zo, Zt, Zp, List.map_cons, List.map_nil, cond_true, cond_false, aop, Zk, Zu, Zv, ev, sput, Zj, Yb, Yc, unK, Ze, Ya, Nat.reduceBEq, Nat.reduceAdd, Int.reduceBEq, Int.reduceBNe, Int.reduceLT, Zy, Yf, tup, tyf, Xd, List.nil_append, List.append_nil, List.toList_toArray, List.cons_append]
    refine awk fun g _ => ?_
    refine hN33 [(0, v), (2, .bool true), (3, .pointer (some ⟨b3, 0, none⟩)), (5, w), (6, .int .i64 0), (7, u), (8, .int .i64 0), (9, Zm (allO xs xs.length : Nat))] _ _ ?_ (by simp (maxSteps := 2000000) only [↓Za, ↓Zi, ↓Zn, ↓Zg, ↓Zl, ↓Zw, ↓Zb, ↓Zc, ↓Zh, ↓Zd, ↓Zf, ↓vdn, vup, Zs, Zr, Zo, Zt, Zp, List.map_cons, List.map_nil, cond_true, cond_false, aop, Zk, Zu, Zv, ev, sput, Zj, Yb, Yc, unK, Ze, Ya, Nat.reduceBEq, Nat.reduceAdd, Int.reduceBEq, Int.reduceBNe, Int.reduceLT, Zy, Yf, tup, tyf])
    clear hN33
    try clear N33
    refine Ye ?_
    simp (maxSteps := 2000000) only [s13, ↓Za, ↓Zi, ↓Zn, ↓Zg, ↓Zl, ↓Zw, ↓Zb, ↓Zc, ↓Zh, ↓Zd, ↓Zf, ↓vdn, vup, Zs, Zr, Zo, Zt, Zp, List.map_cons, List.map_nil, cond_true, cond_false, aop, Zk, Zu, Zv, ev, sput, Zj, Yb, Yc, unK, Ze, Ya, Nat.reduceBEq, Nat.reduceAdd, Int.reduceBEq, Int.reduceBNe, Int.reduceLT, Zy, Yf, tup, tyf]
end Go.Proofs.Tryd.Am

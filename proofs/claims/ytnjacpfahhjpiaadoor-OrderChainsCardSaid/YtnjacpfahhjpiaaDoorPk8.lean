/-
  order: Ideals, Anti.
  order: the fewest chains, by the reference and by the program.
-/
import Derived.Test.YtnjacpfahhjpiaaDoorPk7
set_option linter.all false
namespace Go.Proofs.Tryd.Am
open Go.Am Ord
set_option maxRecDepth 100000
set_option maxHeartbeats 2000000

theorem filter_len (p : Nat → Bool) (s : Nat) : ((List.range s).filter p).length ≤ s := by
  have := List.length_filter_le p (List.range s)
  rwa [List.length_range] at this
theorem all_add {n : Nat} (h : n ≤ 6) : addV .i64 ((2 ^ n - 1 : Nat) : Int) 1 = ((2 ^ n : Nat) : Int) := by
  have hp := pow6 h
  rw [add1 (by omega)]; omega
theorem s83_callW [Tabs Tryd.prog] {args : List Value} {h : Ya} {Q : Value → Ya → Prop} (hsz : args.length ≤ 22) (hk : AWS Tryd.prog 22 s83 (Zu Tryd.prog [.tmp 4] Q) (Zp 0 args) h) : ACall Tryd.prog 83 args h Q :=
  Xu Tryd.func83 rfl (enters_of Tryd.func83 (by kernel_rfl) rfl) rfl rfl (by decide) s83_strip s83_ok hsz hk
theorem sets_call [BitTab prog 1] {h : Ya} {o : List Int} {fn : Nat} {cap : Array Value} (ho : ord o = true) (p : Nat → Bool) (hf : ∀ s h', s < 2 ^ o.length → Ext (fun _ => False) h h' → Wo prog fn (([] : List Value) ++ [Yb (s : Nat)] ++ cap.toList) h' (.bool (p s))) :
    ACall prog 83 [ordV o, .func (.func fn) #[] cap] h fun r h' => OwnSl 3 h' r (iL (setsL o p)) ∧ Ext (fun _ => False) h h' ∧ ∀ b, Xa r = some b → h.length ≤ b := by
  have hl := Yz ho
  have hp := pow6 hl.2
  obtain ⟨H0, hH0⟩ : ∃ H, H = h ++ [Blk.cells (Vb o) 77 false] := ⟨_, rfl⟩
  have hE0 : Ext (fun _ => False) h H0 := by rw [hH0]; exact Ext.app _ _ _
  have b2 : H0[h.length]? = some (.cells (Vb o) 77 false) := by rw [hH0]; exact Xc _ _
  refine s83_callW (by simp) ?_
  simp only [s83]
  refine Yc fun N1 hN1 => ?_
  simp (maxSteps := 2000000) only [s83, ↓Za, ↓Zl, ↓Zr, ↓Ze, ↓Zo, ↓Zs, ↓Zg, ↓Zj, ↓Zf, ↓Zc, ↓Zb, ↓vdn, vup, Zn, Zm, Zi, Zh, Zk, List.map_cons, List.map_nil, cond_true, cond_false, aop, Zv, Zq, Zp, ev, sput, Zt, Zx, Zz, unK, Zd, Zw, Nat.reduceBEq, Nat.reduceAdd, Int.reduceBEq, Int.reduceBNe, Int.reduceLT, Zu, Zy, tup, tyf, boxO esz_77, Wp]
  rw [← hH0]
  refine hN1 [(1, .func (.func fn) #[] cap), (2, .pointer (some ⟨h.length, 0, none⟩)), (4, .slice none 0 0)] _ _ ?_ (by simp (maxSteps := 2000000) only [↓Za, ↓Zl, ↓Zr, ↓Ze, ↓Zo, ↓Zs, ↓Zg, ↓Zj, ↓Zf, ↓Zc, ↓Zb, ↓vdn, vup, Zn, Zm, Zi, Zh, Zk, List.map_cons, List.map_nil, cond_true, cond_false, aop, Zv, Zq, Zp, ev, sput, Zt, Zx, Zz, unK, Zd, Zw, Nat.reduceBEq, Nat.reduceAdd, Int.reduceBEq, Int.reduceBNe, Int.reduceLT, Zu, Zy, tup, tyf])
  clear hN1
  try clear N1
  refine Yc fun N2 hN2 => ?_
  simp (maxSteps := 2000000) only [s83, ↓Za, ↓Zl, ↓Zr, ↓Ze, ↓Zo, ↓Zs, ↓Zg, ↓Zj, ↓Zf, ↓Zc, ↓Zb, ↓vdn, vup, Zn, Zm, Zi, Zh, Zk, List.map_cons, List.map_nil, cond_true, cond_false, aop, Zv, Zq, Zp, ev, sput, Zt, Zx, Zz, unK, Zd, Zw, Nat.reduceBEq, Nat.reduceAdd, Int.reduceBEq, Int.reduceBNe, Int.reduceLT, Zu, Zy, tup, tyf]
  refine hN2 [(1, .func (.func fn) #[] cap), (2, .pointer (some ⟨h.length, 0, none⟩)), (4, .slice none 0 0), (5, .slice none 0 0)] _ _ ?_ (by simp (maxSteps := 2000000) only [↓Za, ↓Zl, ↓Zr, ↓Ze, ↓Zo, ↓Zs, ↓Zg, ↓Zj, ↓Zf, ↓Zc, ↓Zb, ↓vdn, vup, Zn, Zm, Zi, Zh, Zk, List.map_cons, List.map_nil, cond_true, cond_false, aop, Zv, Zq, Zp, ev, sput, Zt, Zx, Zz, unK, Zd, Zw, Nat.reduceBEq, Nat.reduceAdd, Int.reduceBEq, Int.reduceBNe, Int.reduceLT, Zu, Zy, tup, tyf])
  clear hN2
  try clear N2
  refine Yk fun Z hZ => ?_
  refine Yc fun N3 hN3 => ?_
  simp (maxSteps := 2000000) only [s83, ↓Za, ↓Zl, ↓Zr, ↓Ze, ↓Zo, ↓Zs, ↓Zg, ↓Zj, ↓Zf, ↓Zc, ↓Zb, ↓vdn, vup, Zn, Zm, Zi, Zh, Zk, List.map_cons, List.map_nil, cond_true, cond_false, aop, Zv, Zq, Zp, ev, sput, Zt, Zx, Zz, unK, Zd, Zw, Nat.reduceBEq, Nat.reduceAdd, Int.reduceBEq, Int.reduceBNe, Int.reduceLT, Zu, Zy, tup, tyf, Yt, List.nil_append, List.append_nil, List.toList_toArray, List.cons_append, loadO b2 Xf hl.2]
  refine (all_call hl.2).mono ?_
  rintro _ H0 ⟨rfl, rfl⟩
  simp (maxSteps := 2000000) only [s83, ↓Za, ↓Zl, ↓Zr, ↓Ze, ↓Zo, ↓Zs, ↓Zg, ↓Zj, ↓Zf, ↓Zc, ↓Zb, ↓vdn, vup, Zn, Zm, Zi, Zh, Zk, List.map_cons, List.map_nil, cond_true, cond_false, aop, Zv, Zq, Zp, ev, sput, Zt, Zx, Zz, unK, Zd, Zw, Nat.reduceBEq, Nat.reduceAdd, Int.reduceBEq, Int.reduceBNe, Int.reduceLT, Zu, Zy, tup, tyf, all_add hl.2]
  refine hN3 [(1, .func (.func fn) #[] cap), (2, .pointer (some ⟨h.length, 0, none⟩)), (4, .slice none 0 0), (5, .slice none 0 0), (9, Yb ((2 ^ o.length : Nat) : Nat)), (10, .int .i64 0)] _ _ ?_ (by simp (maxSteps := 2000000) only [↓Za, ↓Zl, ↓Zr, ↓Ze, ↓Zo, ↓Zs, ↓Zg, ↓Zj, ↓Zf, ↓Zc, ↓Zb, ↓vdn, vup, Zn, Zm, Zi, Zh, Zk, List.map_cons, List.map_nil, cond_true, cond_false, aop, Zv, Zq, Zp, ev, sput, Zt, Zx, Zz, unK, Zd, Zw, Nat.reduceBEq, Nat.reduceAdd, Int.reduceBEq, Int.reduceBNe, Int.reduceLT, Zu, Zy, tup, tyf])
  clear hN3
  try clear N3
  refine Yl ?_
  refine Yj fun Q hQ => ?_
  refine Xt (γ := Nat × Value × Ya) (fun g => g.1 ≤ 2 ^ o.length ∧ OwnSl 3 g.2.2 g.2.1 (iL ((List.range g.1).filter p)) ∧ Ext (fun _ => False) h g.2.2 ∧ ∀ b, Xa g.2.1 = some b → h.length ≤ b)
    (fun g => ([(1, .func (.func fn) #[] cap), (2, .pointer (some ⟨h.length, 0, none⟩)), (4, .slice none 0 0), (5, g.2.1), (9, Yb ((2 ^ o.length : Nat) : Nat)), (10, Yb (g.1 : Nat))], g.2.2)) (fun g => 2 ^ o.length - g.1) (0, .slice none 0 0, H0) ⟨Nat.zero_le _, .inl ⟨rfl, rfl⟩, hE0, fun b hb => by cases hb⟩ (by simp (maxSteps := 2000000) only [↓Za, ↓Zl, ↓Zr, ↓Ze, ↓Zo, ↓Zs, ↓Zg, ↓Zj, ↓Zf, ↓Zc, ↓Zb, ↓vdn, vup, Zn, Zm, Zi, Zh, Zk, List.map_cons, List.map_nil, cond_true, cond_false, aop, Zv, Zq, Zp, ev, sput, Zt, Zx, Zz, unK, Zd, Zw, Nat.reduceBEq, Nat.reduceAdd, Int.reduceBEq, Int.reduceBNe, Int.reduceLT, Zu, Zy, tup, tyf, Int.natCast_zero]) rfl ?_
  rintro ⟨s, w, H⟩ ⟨hs, how, hEH, hbw⟩
  simp only at hs how hEH hbw
  refine Yj fun Q2 hQ2 => ?_
  simp only [l83_0]
  by_cases hin : (s : Int) < ((2 ^ o.length : Nat) : Int)
  · have hs' : s < 2 ^ o.length := by omega
    have hfs := filter_succ (p := p) s
    have hfl := filter_len p s
    refine Yc fun N4 hN4 => ?_
    simp (maxSteps := 2000000) only [s83, ↓Za, ↓Zl, ↓Zr, ↓Ze, ↓Zo, ↓Zs, ↓Zg, ↓Zj, ↓Zf, ↓Zc, ↓Zb, ↓vdn, vup, Zn, Zm, Zi, Zh, Zk, List.map_cons, List.map_nil, cond_true, cond_false, aop, Zv, Zq, Zp, ev, sput, Zt, Zx, Zz, unK, Zd, Zw, Nat.reduceBEq, Nat.reduceAdd, Int.reduceBEq, Int.reduceBNe, Int.reduceLT, Zu, Zy, tup, tyf, hin]
    refine hN4 [(1, .func (.func fn) #[] cap), (2, .pointer (some ⟨h.length, 0, none⟩)), (4, .slice none 0 0), (5, w), (9, Yb ((2 ^ o.length : Nat) : Nat)), (10, Yb (s : Nat)), (11, .bool true)] _ _ ?_ (by simp (maxSteps := 2000000) only [↓Za, ↓Zl, ↓Zr, ↓Ze, ↓Zo, ↓Zs, ↓Zg, ↓Zj, ↓Zf, ↓Zc, ↓Zb, ↓vdn, vup, Zn, Zm, Zi, Zh, Zk, List.map_cons, List.map_nil, cond_true, cond_false, aop, Zv, Zq, Zp, ev, sput, Zt, Zx, Zz, unK, Zd, Zw, Nat.reduceBEq, Nat.reduceAdd, Int.reduceBEq, Int.reduceBNe, Int.reduceLT, Zu, Zy, tup, tyf])
    clear hN4
    try clear N4
    refine Yc fun N5 hN5 => ?_
    simp (maxSteps := 2000000) only [s83, ↓Za, ↓Zl, ↓Zr, ↓Ze, ↓Zo, ↓Zs, ↓Zg, ↓Zj, ↓Zf, ↓Zc, ↓Zb, ↓vdn, vup, Zn, Zm, Zi, Zh, Zk, List.map_cons, List.map_nil, cond_true, cond_false, aop, Zv, Zq, Zp, ev, sput, Zt, Zx, Zz, unK, Zd, Zw, Nat.reduceBEq, Nat.reduceAdd, Int.reduceBEq, Int.reduceBNe, Int.reduceLT, Zu, Zy, tup, tyf]
    refine hN5 [(1, .func (.func fn) #[] cap), (2, .pointer (some ⟨h.length, 0, none⟩)), (4, .slice none 0 0), (5, w), (9, Yb ((2 ^ o.length : Nat) : Nat)), (10, Yb (s : Nat))] _ _ ?_ (by simp (maxSteps := 2000000) only [↓Za, ↓Zl, ↓Zr, ↓Ze, ↓Zo, ↓Zs, ↓Zg, ↓Zj, ↓Zf, ↓Zc, ↓Zb, ↓vdn, vup, Zn, Zm, Zi, Zh, Zk, List.map_cons, List.map_nil, cond_true, cond_false, aop, Zv, Zq, Zp, ev, sput, Zt, Zx, Zz, unK, Zd, Zw, Nat.reduceBEq, Nat.reduceAdd, Int.reduceBEq, Int.reduceBNe, Int.reduceLT, Zu, Zy, tup, tyf])
    clear hN5
    try clear N5
    refine Yk fun B hB => ?_
    refine Yl ?_
    refine Yc fun N6 hN6 => ?_
    simp (maxSteps := 2000000) only [s83, ↓Za, ↓Zl, ↓Zr, ↓Ze, ↓Zo, ↓Zs, ↓Zg, ↓Zj, ↓Zf, ↓Zc, ↓Zb, ↓vdn, vup, Zn, Zm, Zi, Zh, Zk, List.map_cons, List.map_nil, cond_true, cond_false, aop, Zv, Zq, Zp, ev, sput, Zt, Zx, Zz, unK, Zd, Zw, Nat.reduceBEq, Nat.reduceAdd, Int.reduceBEq, Int.reduceBNe, Int.reduceLT, Zu, Zy, tup, tyf]
    refine hN6 [(1, .func (.func fn) #[] cap), (2, .pointer (some ⟨h.length, 0, none⟩)), (4, .slice none 0 0), (5, w), (6, Yb (s : Nat)), (9, Yb ((2 ^ o.length : Nat) : Nat)), (10, Yb (s : Nat))] _ _ ?_ (by simp (maxSteps := 2000000) only [↓Za, ↓Zl, ↓Zr, ↓Ze, ↓Zo, ↓Zs, ↓Zg, ↓Zj, ↓Zf, ↓Zc, ↓Zb, ↓vdn, vup, Zn, Zm, Zi, Zh, Zk, List.map_cons, List.map_nil, cond_true, cond_false, aop, Zv, Zq, Zp, ev, sput, Zt, Zx, Zz, unK, Zd, Zw, Nat.reduceBEq, Nat.reduceAdd, Int.reduceBEq, Int.reduceBNe, Int.reduceLT, Zu, Zy, tup, tyf])
    clear hN6
    try clear N6
    refine Yc fun N7 hN7 => ?_
    simp (maxSteps := 2000000) only [s83, ↓Za, ↓Zl, ↓Zr, ↓Ze, ↓Zo, ↓Zs, ↓Zg, ↓Zj, ↓Zf, ↓Zc, ↓Zb, ↓vdn, vup, Zn, Zm, Zi, Zh, Zk, List.map_cons, List.map_nil, cond_true, cond_false, aop, Zv, Zq, Zp, ev, sput, Zt, Zx, Zz, unK, Zd, Zw, Nat.reduceBEq, Nat.reduceAdd, Int.reduceBEq, Int.reduceBNe, Int.reduceLT, Zu, Zy, tup, tyf, Yt]
    refine (hf s H hs' hEH).mono ?_
    rintro _ H ⟨rfl, rfl⟩
    refine hN7 [(1, .func (.func fn) #[] cap), (2, .pointer (some ⟨h.length, 0, none⟩)), (4, .slice none 0 0), (5, w), (6, Yb (s : Nat)), (9, Yb ((2 ^ o.length : Nat) : Nat)), (10, Yb (s : Nat)), (15, .bool (p s))] _ _ ?_ (by simp (maxSteps := 2000000) only [↓Za, ↓Zl, ↓Zr, ↓Ze, ↓Zo, ↓Zs, ↓Zg, ↓Zj, ↓Zf, ↓Zc, ↓Zb, ↓vdn, vup, Zn, Zm, Zi, Zh, Zk, List.map_cons, List.map_nil, cond_true, cond_false, aop, Zv, Zq, Zp, ev, sput, Zt, Zx, Zz, unK, Zd, Zw, Nat.reduceBEq, Nat.reduceAdd, Int.reduceBEq, Int.reduceBNe, Int.reduceLT, Zu, Zy, tup, tyf])
    clear hN7
    try clear N7
    cases hid : p s with
    | true =>
      rw [hid, if_pos rfl] at hfs
      refine Wb rfl ?_
      refine Yf ?_
      simp (maxSteps := 2000000) only [s83, ↓Za, ↓Zl, ↓Zr, ↓Ze, ↓Zo, ↓Zs, ↓Zg, ↓Zj, ↓Zf, ↓Zc, ↓Zb, ↓vdn, vup, Zn, Zm, Zi, Zh, Zk, List.map_cons, List.map_nil, cond_true, cond_false, aop, Zv, Zq, Zp, ev, sput, Zt, Zx, Zz, unK, Zd, Zw, Nat.reduceBEq, Nat.reduceAdd, Int.reduceBEq, Int.reduceBNe, Int.reduceLT, Zu, Zy, tup, tyf, litI1]
      refine OwnSl.append (x := (s : Int)) (how.ext (S := fun _ => False) (Ext.app _ _ _) (fun _ _ => id)) app_22_22 (by rw [Wy]; omega) (Xc _ _) ?_
      intro w' G ho' hE' hb'
      rw [iL_snoc, ← hfs] at ho'
      have hE2 : Ext (fun _ => False) h G := ext_app hEH (H' := H ++ [Blk.ints [(s : Int)] 3 false]) (by simp) (fun q hq => List.getElem?_append_left (by have := hEH.1; omega)) (fun b hb => hbw b hb) hE'
      have hbw' : ∀ b, Xa w' = some b → h.length ≤ b := fun b hb => by
        rcases hb' with h1 | ⟨b', h1, h2⟩
        · exact hbw b (h1 ▸ hb)
        · rw [h1] at hb; cases hb
          rw [List.length_append] at h2
          have := hEH.1; omega
      refine hB [(1, .func (.func fn) #[] cap), (2, .pointer (some ⟨h.length, 0, none⟩)), (4, .slice none 0 0), (5, w'), (9, Yb ((2 ^ o.length : Nat) : Nat)), (10, Yb (s : Nat))] _ _ ?_ (by simp (maxSteps := 2000000) only [↓Za, ↓Zl, ↓Zr, ↓Ze, ↓Zo, ↓Zs, ↓Zg, ↓Zj, ↓Zf, ↓Zc, ↓Zb, ↓vdn, vup, Zn, Zm, Zi, Zh, Zk, List.map_cons, List.map_nil, cond_true, cond_false, aop, Zv, Zq, Zp, ev, sput, Zt, Zx, Zz, unK, Zd, Zw, Nat.reduceBEq, Nat.reduceAdd, Int.reduceBEq, Int.reduceBNe, Int.reduceLT, Zu, Zy, tup, tyf])
      clear hB
      try clear B
      refine Yf ?_
      simp (maxSteps := 2000000) only [s83, ↓Za, ↓Zl, ↓Zr, ↓Ze, ↓Zo, ↓Zs, ↓Zg, ↓Zj, ↓Zf, ↓Zc, ↓Zb, ↓vdn, vup, Zn, Zm, Zi, Zh, Zk, List.map_cons, List.map_nil, cond_true, cond_false, aop, Zv, Zq, Zp, ev, sput, Zt, Zx, Zz, unK, Zd, Zw, Nat.reduceBEq, Nat.reduceAdd, Int.reduceBEq, Int.reduceBNe, Int.reduceLT, Zu, Zy, tup, tyf, add1 (show s < 9223372036854775807 by omega)]
      exact hQ2 _ _ _ ⟨(s + 1, w', G), ⟨hs', ho', hE2, hbw'⟩, by simp only; omega, by simp (maxSteps := 2000000) only [↓Za, ↓Zl, ↓Zr, ↓Ze, ↓Zo, ↓Zs, ↓Zg, ↓Zj, ↓Zf, ↓Zc, ↓Zb, ↓vdn, vup, Zn, Zm, Zi, Zh, Zk, List.map_cons, List.map_nil, cond_true, cond_false, aop, Zv, Zq, Zp, ev, sput, Zt, Zx, Zz, unK, Zd, Zw, Nat.reduceBEq, Nat.reduceAdd, Int.reduceBEq, Int.reduceBNe, Int.reduceLT, Zu, Zy, tup, tyf], rfl⟩
    | false =>
      rw [hid, if_neg (by decide), List.append_nil] at hfs
      refine Ys rfl ?_
      refine Yf ?_
      simp (maxSteps := 2000000) only [s83, ↓Za, ↓Zl, ↓Zr, ↓Ze, ↓Zo, ↓Zs, ↓Zg, ↓Zj, ↓Zf, ↓Zc, ↓Zb, ↓vdn, vup, Zn, Zm, Zi, Zh, Zk, List.map_cons, List.map_nil, cond_true, cond_false, aop, Zv, Zq, Zp, ev, sput, Zt, Zx, Zz, unK, Zd, Zw, Nat.reduceBEq, Nat.reduceAdd, Int.reduceBEq, Int.reduceBNe, Int.reduceLT, Zu, Zy, tup, tyf]
      refine hB [(1, .func (.func fn) #[] cap), (2, .pointer (some ⟨h.length, 0, none⟩)), (4, .slice none 0 0), (5, w), (9, Yb ((2 ^ o.length : Nat) : Nat)), (10, Yb (s : Nat))] _ _ ?_ (by simp (maxSteps := 2000000) only [↓Za, ↓Zl, ↓Zr, ↓Ze, ↓Zo, ↓Zs, ↓Zg, ↓Zj, ↓Zf, ↓Zc, ↓Zb, ↓vdn, vup, Zn, Zm, Zi, Zh, Zk, List.map_cons, List.map_nil, cond_true, cond_false, aop, Zv, Zq, Zp, ev, sput, Zt, Zx, Zz, unK, Zd, Zw, Nat.reduceBEq, Nat.reduceAdd, Int.reduceBEq, Int.reduceBNe, Int.reduceLT, Zu, Zy, tup, tyf])
      clear hB
      try clear B
      refine Yf ?_
      simp (maxSteps := 2000000) only [s83, ↓Za, ↓Zl, ↓Zr, ↓Ze, ↓Zo, ↓Zs, ↓Zg, ↓Zj, ↓Zf, ↓Zc, ↓Zb, ↓vdn, vup, Zn, Zm, Zi, Zh, Zk, List.map_cons, List.map_nil, cond_true, cond_false, aop, Zv, Zq, Zp, ev, sput, Zt, Zx, Zz, unK, Zd, Zw, Nat.reduceBEq, Nat.reduceAdd, Int.reduceBEq, Int.reduceBNe, Int.reduceLT, Zu, Zy, tup, tyf, add1 (show s < 9223372036854775807 by omega)]
      exact hQ2 _ _ _ ⟨(s + 1, w, H), ⟨hs', by simp only; rw [hfs]; exact how, hEH, hbw⟩, by simp only; omega, by simp (maxSteps := 2000000) only [↓Za, ↓Zl, ↓Zr, ↓Ze, ↓Zo, ↓Zs, ↓Zg, ↓Zj, ↓Zf, ↓Zc, ↓Zb, ↓vdn, vup, Zn, Zm, Zi, Zh, Zk, List.map_cons, List.map_nil, cond_true, cond_false, aop, Zv, Zq, Zp, ev, sput, Zt, Zx, Zz, unK, Zd, Zw, Nat.reduceBEq, Nat.reduceAdd, Int.reduceBEq, Int.reduceBNe, Int.reduceLT, Zu, Zy, tup, tyf], rfl⟩
  · obtain rfl : s = 2 ^ o.length := by omega
    refine Yc fun N8 hN8 => ?_
    simp (maxSteps := 2000000) only [s83, ↓Za, ↓Zl, ↓Zr, ↓Ze, ↓Zo, ↓Zs, ↓Zg, ↓Zj, ↓Zf, ↓Zc, ↓Zb, ↓vdn, vup, Zn, Zm, Zi, Zh, Zk, List.map_cons, List.map_nil, cond_true, cond_false, aop, Zv, Zq, Zp, ev, sput, Zt, Zx, Zz, unK, Zd, Zw, Nat.reduceBEq, Nat.reduceAdd, Int.reduceBEq, Int.reduceBNe, Int.reduceLT, Zu, Zy, tup, tyf, hin]
    refine hN8 [(1, .func (.func fn) #[] cap), (2, .pointer (some ⟨h.length, 0, none⟩)), (4, .slice none 0 0), (5, w), (9, Yb ((2 ^ o.length : Nat) : Nat)), (10, Yb ((2 ^ o.length : Nat) : Nat)), (11, .bool false)] _ _ ?_ (by simp (maxSteps := 2000000) only [↓Za, ↓Zl, ↓Zr, ↓Ze, ↓Zo, ↓Zs, ↓Zg, ↓Zj, ↓Zf, ↓Zc, ↓Zb, ↓vdn, vup, Zn, Zm, Zi, Zh, Zk, List.map_cons, List.map_nil, cond_true, cond_false, aop, Zv, Zq, Zp, ev, sput, Zt, Zx, Zz, unK, Zd, Zw, Nat.reduceBEq, Nat.reduceAdd, Int.reduceBEq, Int.reduceBNe, Int.reduceLT, Zu, Zy, tup, tyf])
    clear hN8
    try clear N8
    refine Yc fun N9 hN9 => ?_
    simp (maxSteps := 2000000) only [s83, ↓Za, ↓Zl, ↓Zr, ↓Ze, ↓Zo, ↓Zs, ↓Zg, ↓Zj, ↓Zf, ↓Zc, ↓Zb, ↓vdn, vup, Zn, Zm, Zi, Zh, Zk, List.map_cons, List.map_nil, cond_true, cond_false, aop, Zv, Zq, Zp, ev, sput, Zt, Zx, Zz, unK, Zd, Zw, Nat.reduceBEq, Nat.reduceAdd, Int.reduceBEq, Int.reduceBNe, Int.reduceLT, Zu, Zy, tup, tyf]
    refine hQ2 _ _ _ (hQ _ _ _ ?_)
    simp (maxSteps := 2000000) only [s83, ↓Za, ↓Zl, ↓Zr, ↓Ze, ↓Zo, ↓Zs, ↓Zg, ↓Zj, ↓Zf, ↓Zc, ↓Zb, ↓vdn, vup, Zn, Zm, Zi, Zh, Zk, List.map_cons, List.map_nil, cond_true, cond_false, aop, Zv, Zq, Zp, ev, sput, Zt, Zx, Zz, unK, Zd, Zw, Nat.reduceBEq, Nat.reduceAdd, Int.reduceBEq, Int.reduceBNe, Int.reduceLT, Zu, Zy, tup, tyf, if_true]
    refine hZ [(1, .func (.func fn) #[] cap), (2, .pointer (some ⟨h.length, 0, none⟩)), (4, .slice none 0 0), (5, w)] _ _ ?_ (by simp (maxSteps := 2000000) only [↓Za, ↓Zl, ↓Zr, ↓Ze, ↓Zo, ↓Zs, ↓Zg, ↓Zj, ↓Zf, ↓Zc, ↓Zb, ↓vdn, vup, Zn, Zm, Zi, Zh, Zk, List.map_cons, List.map_nil, cond_true, cond_false, aop, Zv, Zq, Zp, ev, sput, Zt, Zx, Zz, unK, Zd, Zw, Nat.reduceBEq, Nat.reduceAdd, Int.reduceBEq, Int.reduceBNe, Int.reduceLT, Zu, Zy, tup, tyf])
    clear hZ
    try clear Z
    refine Yf ?_
    simp (maxSteps := 2000000) only [s83, ↓Za, ↓Zl, ↓Zr, ↓Ze, ↓Zo, ↓Zs, ↓Zg, ↓Zj, ↓Zf, ↓Zc, ↓Zb, ↓vdn, vup, Zn, Zm, Zi, Zh, Zk, List.map_cons, List.map_nil, cond_true, cond_false, aop, Zv, Zq, Zp, ev, sput, Zt, Zx, Zz, unK, Zd, Zw, Nat.reduceBEq, Nat.reduceAdd, Int.reduceBEq, Int.reduceBNe, Int.reduceLT, Zu, Zy, tup, tyf]
    exact ⟨how, hEH, hbw⟩

/-- What a function that hands back sets says. -/
def SetsIs (o : List Int) (L : List Nat) (h' : Ya) (x : Value) (e : Int) : Prop := if ord o = true then e = 0 ∧ OwnSl 3 h' x (iL L) else x = .slice none 0 0 ∧ e = 2
theorem ideals_call [BitTab prog 1] {h : Ya} {v : Value} {o : List Int} (hv : IntSl h v o) (hl : o.length < 9223372036854775808) (hx : ∀ x ∈ o, -9223372036854775808 ≤ x ∧ x < 9223372036854775808) :
    ACall prog 58 [v] h fun r h' => Ext (fun _ => False) h h' ∧ ∃ x e, r = .tuple #[x, .int .i64 e] ∧ SetsIs o (setsL o (idl o)) h' x e := by
  refine s58_call (by simp) ?_
  simp only [s58]
  simp (maxSteps := 2000000) only [s58, ↓Za, ↓Zl, ↓Zr, ↓Ze, ↓Zo, ↓Zs, ↓Zg, ↓Zj, ↓Zf, ↓Zc, ↓Zb, ↓vdn, vup, Zn, Zm, Zi, Zh, Zk, List.map_cons, List.map_nil, cond_true, cond_false, aop, Zv, Zq, Zp, ev, sput, Zt, Zx, Zz, unK, Zd, Zw, Nat.reduceBEq, Nat.reduceAdd, Int.reduceBEq, Int.reduceBNe, Int.reduceLT, Zu, Zy, tup, tyf, Yt, List.nil_append, List.append_nil, List.toList_toArray, List.cons_append]
  refine (read_call hv hl hx).mono ?_
  rintro _ g ⟨rfl, rfl⟩
  simp (maxSteps := 2000000) only [s58, ↓Za, ↓Zl, ↓Zr, ↓Ze, ↓Zo, ↓Zs, ↓Zg, ↓Zj, ↓Zf, ↓Zc, ↓Zb, ↓vdn, vup, Zn, Zm, Zi, Zh, Zk, List.map_cons, List.map_nil, cond_true, cond_false, aop, Zv, Zq, Zp, ev, sput, Zt, Zx, Zz, unK, Zd, Zw, Nat.reduceBEq, Nat.reduceAdd, Int.reduceBEq, Int.reduceBNe, Int.reduceLT, Zu, Zy, tup, tyf, Wr, Wp, zeroN, zero_77]
  rw [storeRd]
  obtain ⟨hE, hb⟩ := rdBox g o
  generalize hgl : g.length = gl at hE hb ⊢
  generalize (g ++ [Blk.cells (ordN 0) 77 false]).set gl (.cells (rdC o) 77 false) = G at hE hb ⊢
  cases ho : ord o with
  | false =>
    simp (maxSteps := 2000000) only [s58, ↓Za, ↓Zl, ↓Zr, ↓Ze, ↓Zo, ↓Zs, ↓Zg, ↓Zj, ↓Zf, ↓Zc, ↓Zb, ↓vdn, vup, Zn, Zm, Zi, Zh, Zk, List.map_cons, List.map_nil, cond_true, cond_false, aop, Zv, Zq, Zp, ev, sput, Zt, Zx, Zz, unK, Zd, Zw, Nat.reduceBEq, Nat.reduceAdd, Int.reduceBEq, Int.reduceBNe, Int.reduceLT, Zu, Zy, tup, tyf, ho]
    exact ⟨hE, _, _, rfl, by rw [SetsIs, ho]; exact ⟨rfl, rfl⟩⟩
  | true =>
    have hrd : rdC o = Vb o := if_pos (Yz ho)
    rw [hrd] at hb
    simp (maxSteps := 2000000) only [s58, ↓Za, ↓Zl, ↓Zr, ↓Ze, ↓Zo, ↓Zs, ↓Zg, ↓Zj, ↓Zf, ↓Zc, ↓Zb, ↓vdn, vup, Zn, Zm, Zi, Zh, Zk, List.map_cons, List.map_nil, cond_true, cond_false, aop, Zv, Zq, Zp, ev, sput, Zt, Zx, Zz, unK, Zd, Zw, Nat.reduceBEq, Nat.reduceAdd, Int.reduceBEq, Int.reduceBNe, Int.reduceLT, Zu, Zy, tup, tyf, ho, loadO hb Xf (Yz ho).2, List.map_toArray, Yt, List.nil_append, List.append_nil, List.toList_toArray, List.cons_append]
    refine (sets_call ho (idl o) fun s h' hs hE' => ?_).mono ?_
    · exact ideals1_call ho hs ((hE'.2 _ (Xd hb) id).trans hb)
    rintro r H ⟨hr, hEH, _⟩
    exact ⟨hE.trans hEH, _, _, rfl, by rw [SetsIs, ho]; exact ⟨rfl, hr⟩⟩

theorem s88_callW [Tabs Tryd.prog] {args : List Value} {h : Ya} {Q : Value → Ya → Prop} (hsz : args.length ≤ 18) (hk : AWS Tryd.prog 18 s88 (Zu Tryd.prog [.tmp 2] Q) (Zp 0 args) h) : ACall Tryd.prog 88 args h Q :=
  Xu Tryd.func88 rfl (enters_of Tryd.func88 (by kernel_rfl) rfl) rfl rfl (by decide) s88_strip s88_ok hsz hk
theorem or_call [Tabs prog] {h : Ya} {v : Value} {x y : Int} (hv : IntSl h v [x, y]) : Wo prog 88 [v] h (Yb (if x = 0 then y else x)) := by
  have hl2 : ((([x, y] : List Int).length : Nat) : Int) = 2 := rfl
  refine s88_callW (by simp) ?_
  simp only [s88]
  refine Yc fun N10 hN10 => ?_
  simp (maxSteps := 2000000) only [s88, ↓Za, ↓Zl, ↓Zr, ↓Ze, ↓Zo, ↓Zs, ↓Zg, ↓Zj, ↓Zf, ↓Zc, ↓Zb, ↓vdn, vup, Zn, Zm, Zi, Zh, Zk, List.map_cons, List.map_nil, cond_true, cond_false, aop, Zv, Zq, Zp, ev, sput, Zt, Zx, Zz, unK, Zd, Zw, Nat.reduceBEq, Nat.reduceAdd, Int.reduceBEq, Int.reduceBNe, Int.reduceLT, Zu, Zy, tup, tyf]
  refine hN10 [(0, v), (2, .int .i64 0)] _ _ ?_ (by simp (maxSteps := 2000000) only [↓Za, ↓Zl, ↓Zr, ↓Ze, ↓Zo, ↓Zs, ↓Zg, ↓Zj, ↓Zf, ↓Zc, ↓Zb, ↓vdn, vup, Zn, Zm, Zi, Zh, Zk, List.map_cons, List.map_nil, cond_true, cond_false, aop, Zv, Zq, Zp, ev, sput, Zt, Zx, Zz, unK, Zd, Zw, Nat.reduceBEq, Nat.reduceAdd, Int.reduceBEq, Int.reduceBNe, Int.reduceLT, Zu, Zy, tup, tyf])
  clear hN10
  try clear N10
  refine Yc fun N11 hN11 => ?_
  simp (maxSteps := 2000000) only [s88, ↓Za, ↓Zl, ↓Zr, ↓Ze, ↓Zo, ↓Zs, ↓Zg, ↓Zj, ↓Zf, ↓Zc, ↓Zb, ↓vdn, vup, Zn, Zm, Zi, Zh, Zk, List.map_cons, List.map_nil, cond_true, cond_false, aop, Zv, Zq, Zp, ev, sput, Zt, Zx, Zz, unK, Zd, Zw, Nat.reduceBEq, Nat.reduceAdd, Int.reduceBEq, Int.reduceBNe, Int.reduceLT, Zu, Zy, tup, tyf]
  refine hN11 [(0, v), (2, .int .i64 0), (3, .int .i64 0)] _ _ ?_ (by simp (maxSteps := 2000000) only [↓Za, ↓Zl, ↓Zr, ↓Ze, ↓Zo, ↓Zs, ↓Zg, ↓Zj, ↓Zf, ↓Zc, ↓Zb, ↓vdn, vup, Zn, Zm, Zi, Zh, Zk, List.map_cons, List.map_nil, cond_true, cond_false, aop, Zv, Zq, Zp, ev, sput, Zt, Zx, Zz, unK, Zd, Zw, Nat.reduceBEq, Nat.reduceAdd, Int.reduceBEq, Int.reduceBNe, Int.reduceLT, Zu, Zy, tup, tyf])
  clear hN11
  try clear N11
  refine Yk fun Z hZ => ?_
  refine Yc fun N12 hN12 => ?_
  simp (maxSteps := 2000000) only [s88, ↓Za, ↓Zl, ↓Zr, ↓Ze, ↓Zo, ↓Zs, ↓Zg, ↓Zj, ↓Zf, ↓Zc, ↓Zb, ↓vdn, vup, Zn, Zm, Zi, Zh, Zk, List.map_cons, List.map_nil, cond_true, cond_false, aop, Zv, Zq, Zp, ev, sput, Zt, Zx, Zz, unK, Zd, Zw, Nat.reduceBEq, Nat.reduceAdd, Int.reduceBEq, Int.reduceBNe, Int.reduceLT, Zu, Zy, tup, tyf, hv.len, hl2]
  refine hN12 [(0, v), (2, .int .i64 0), (3, .int .i64 0), (6, v), (7, .int .i64 2), (8, .int .i64 0)] _ _ ?_ (by simp (maxSteps := 2000000) only [↓Za, ↓Zl, ↓Zr, ↓Ze, ↓Zo, ↓Zs, ↓Zg, ↓Zj, ↓Zf, ↓Zc, ↓Zb, ↓vdn, vup, Zn, Zm, Zi, Zh, Zk, List.map_cons, List.map_nil, cond_true, cond_false, aop, Zv, Zq, Zp, ev, sput, Zt, Zx, Zz, unK, Zd, Zw, Nat.reduceBEq, Nat.reduceAdd, Int.reduceBEq, Int.reduceBNe, Int.reduceLT, Zu, Zy, tup, tyf])
  clear hN12
  try clear N12
  refine Yl ?_
  refine Yj fun Q hQ => ?_
  refine Xt (γ := Nat) (fun k => k ≤ 2 ∧ ∀ i, i < k → [x, y].getD i 0 = 0) (fun k => ([(0, v), (2, .int .i64 0), (3, .int .i64 0), (6, v), (7, .int .i64 2), (8, Yb (k : Nat))], h)) (fun k => 2 - k) 0 ⟨Nat.zero_le _, fun i hi => absurd hi (Nat.not_lt_zero i)⟩ (by simp (maxSteps := 2000000) only [↓Za, ↓Zl, ↓Zr, ↓Ze, ↓Zo, ↓Zs, ↓Zg, ↓Zj, ↓Zf, ↓Zc, ↓Zb, ↓vdn, vup, Zn, Zm, Zi, Zh, Zk, List.map_cons, List.map_nil, cond_true, cond_false, aop, Zv, Zq, Zp, ev, sput, Zt, Zx, Zz, unK, Zd, Zw, Nat.reduceBEq, Nat.reduceAdd, Int.reduceBEq, Int.reduceBNe, Int.reduceLT, Zu, Zy, tup, tyf, Int.natCast_zero]) rfl ?_
  rintro k ⟨hk, hz⟩
  refine Yj fun Q2 hQ2 => ?_
  simp only [l88_0]
  by_cases hin : (k : Int) < 2
  · have hk2 : k < [x, y].length := by simp; omega
    obtain ⟨z, hzz⟩ : ∃ z, [x, y].getD k 0 = z := ⟨_, rfl⟩
    refine Yc fun N13 hN13 => ?_
    simp (maxSteps := 2000000) only [s88, ↓Za, ↓Zl, ↓Zr, ↓Ze, ↓Zo, ↓Zs, ↓Zg, ↓Zj, ↓Zf, ↓Zc, ↓Zb, ↓vdn, vup, Zn, Zm, Zi, Zh, Zk, List.map_cons, List.map_nil, cond_true, cond_false, aop, Zv, Zq, Zp, ev, sput, Zt, Zx, Zz, unK, Zd, Zw, Nat.reduceBEq, Nat.reduceAdd, Int.reduceBEq, Int.reduceBNe, Int.reduceLT, Zu, Zy, tup, tyf, hin]
    refine hN13 [(0, v), (2, .int .i64 0), (3, .int .i64 0), (6, v), (7, .int .i64 2), (8, Yb (k : Nat)), (9, .bool true)] _ _ ?_ (by simp (maxSteps := 2000000) only [↓Za, ↓Zl, ↓Zr, ↓Ze, ↓Zo, ↓Zs, ↓Zg, ↓Zj, ↓Zf, ↓Zc, ↓Zb, ↓vdn, vup, Zn, Zm, Zi, Zh, Zk, List.map_cons, List.map_nil, cond_true, cond_false, aop, Zv, Zq, Zp, ev, sput, Zt, Zx, Zz, unK, Zd, Zw, Nat.reduceBEq, Nat.reduceAdd, Int.reduceBEq, Int.reduceBNe, Int.reduceLT, Zu, Zy, tup, tyf])
    clear hN13
    try clear N13
    refine Yc fun N14 hN14 => ?_
    simp (maxSteps := 2000000) only [s88, ↓Za, ↓Zl, ↓Zr, ↓Ze, ↓Zo, ↓Zs, ↓Zg, ↓Zj, ↓Zf, ↓Zc, ↓Zb, ↓vdn, vup, Zn, Zm, Zi, Zh, Zk, List.map_cons, List.map_nil, cond_true, cond_false, aop, Zv, Zq, Zp, ev, sput, Zt, Zx, Zz, unK, Zd, Zw, Nat.reduceBEq, Nat.reduceAdd, Int.reduceBEq, Int.reduceBNe, Int.reduceLT, Zu, Zy, tup, tyf]
    refine hN14 [(0, v), (2, .int .i64 0), (3, .int .i64 0), (6, v), (7, .int .i64 2), (8, Yb (k : Nat))] _ _ ?_ (by simp (maxSteps := 2000000) only [↓Za, ↓Zl, ↓Zr, ↓Ze, ↓Zo, ↓Zs, ↓Zg, ↓Zj, ↓Zf, ↓Zc, ↓Zb, ↓vdn, vup, Zn, Zm, Zi, Zh, Zk, List.map_cons, List.map_nil, cond_true, cond_false, aop, Zv, Zq, Zp, ev, sput, Zt, Zx, Zz, unK, Zd, Zw, Nat.reduceBEq, Nat.reduceAdd, Int.reduceBEq, Int.reduceBNe, Int.reduceLT, Zu, Zy, tup, tyf])
    clear hN14
    try clear N14
    refine Yk fun B hB => ?_
    refine Yl ?_
    refine Yc fun N15 hN15 => ?_
    simp (maxSteps := 2000000) only [s88, ↓Za, ↓Zl, ↓Zr, ↓Ze, ↓Zo, ↓Zs, ↓Zg, ↓Zj, ↓Zf, ↓Zc, ↓Zb, ↓vdn, vup, Zn, Zm, Zi, Zh, Zk, List.map_cons, List.map_nil, cond_true, cond_false, aop, Zv, Zq, Zp, ev, sput, Zt, Zx, Zz, unK, Zd, Zw, Nat.reduceBEq, Nat.reduceAdd, Int.reduceBEq, Int.reduceBNe, Int.reduceLT, Zu, Zy, tup, tyf, hv.idx Xm Xh hk2, hv.load Yp hk2, hzz]
    refine hN15 [(0, v), (2, .int .i64 0), (3, .int .i64 0), (5, .int .i64 z), (6, v), (7, .int .i64 2), (8, Yb (k : Nat))] _ _ ?_ (by simp (maxSteps := 2000000) only [↓Za, ↓Zl, ↓Zr, ↓Ze, ↓Zo, ↓Zs, ↓Zg, ↓Zj, ↓Zf, ↓Zc, ↓Zb, ↓vdn, vup, Zn, Zm, Zi, Zh, Zk, List.map_cons, List.map_nil, cond_true, cond_false, aop, Zv, Zq, Zp, ev, sput, Zt, Zx, Zz, unK, Zd, Zw, Nat.reduceBEq, Nat.reduceAdd, Int.reduceBEq, Int.reduceBNe, Int.reduceLT, Zu, Zy, tup, tyf])
    clear hN15
    try clear N15
    refine Yc fun N16 hN16 => ?_
    simp (maxSteps := 2000000) only [s88, ↓Za, ↓Zl, ↓Zr, ↓Ze, ↓Zo, ↓Zs, ↓Zg, ↓Zj, ↓Zf, ↓Zc, ↓Zb, ↓vdn, vup, Zn, Zm, Zi, Zh, Zk, List.map_cons, List.map_nil, cond_true, cond_false, aop, Zv, Zq, Zp, ev, sput, Zt, Zx, Zz, unK, Zd, Zw, Nat.reduceBEq, Nat.reduceAdd, Int.reduceBEq, Int.reduceBNe, Int.reduceLT, Zu, Zy, tup, tyf]
    refine hN16 [(0, v), (2, .int .i64 0), (3, .int .i64 0), (5, .int .i64 z), (6, v), (7, .int .i64 2), (8, Yb (k : Nat)), (14, .bool (z != 0))] _ _ ?_ (by simp (maxSteps := 2000000) only [↓Za, ↓Zl, ↓Zr, ↓Ze, ↓Zo, ↓Zs, ↓Zg, ↓Zj, ↓Zf, ↓Zc, ↓Zb, ↓vdn, vup, Zn, Zm, Zi, Zh, Zk, List.map_cons, List.map_nil, cond_true, cond_false, aop, Zv, Zq, Zp, ev, sput, Zt, Zx, Zz, unK, Zd, Zw, Nat.reduceBEq, Nat.reduceAdd, Int.reduceBEq, Int.reduceBNe, Int.reduceLT, Zu, Zy, tup, tyf])
    clear hN16
    try clear N16
    by_cases h0 : z = 0
    · have hz0 : (z != 0) = false := by rw [h0]; rfl
      rw [hz0]
      refine Ys rfl ?_
      refine Yf ?_
      simp (maxSteps := 2000000) only [s88, ↓Za, ↓Zl, ↓Zr, ↓Ze, ↓Zo, ↓Zs, ↓Zg, ↓Zj, ↓Zf, ↓Zc, ↓Zb, ↓vdn, vup, Zn, Zm, Zi, Zh, Zk, List.map_cons, List.map_nil, cond_true, cond_false, aop, Zv, Zq, Zp, ev, sput, Zt, Zx, Zz, unK, Zd, Zw, Nat.reduceBEq, Nat.reduceAdd, Int.reduceBEq, Int.reduceBNe, Int.reduceLT, Zu, Zy, tup, tyf]
      refine hB [(0, v), (2, .int .i64 0), (3, .int .i64 0), (6, v), (7, .int .i64 2), (8, Yb (k : Nat))] _ _ ?_ (by simp (maxSteps := 2000000) only [↓Za, ↓Zl, ↓Zr, ↓Ze, ↓Zo, ↓Zs, ↓Zg, ↓Zj, ↓Zf, ↓Zc, ↓Zb, ↓vdn, vup, Zn, Zm, Zi, Zh, Zk, List.map_cons, List.map_nil, cond_true, cond_false, aop, Zv, Zq, Zp, ev, sput, Zt, Zx, Zz, unK, Zd, Zw, Nat.reduceBEq, Nat.reduceAdd, Int.reduceBEq, Int.reduceBNe, Int.reduceLT, Zu, Zy, tup, tyf])
      clear hB
      try clear B
      refine Yf ?_
      simp (maxSteps := 2000000) only [s88, ↓Za, ↓Zl, ↓Zr, ↓Ze, ↓Zo, ↓Zs, ↓Zg, ↓Zj, ↓Zf, ↓Zc, ↓Zb, ↓vdn, vup, Zn, Zm, Zi, Zh, Zk, List.map_cons, List.map_nil, cond_true, cond_false, aop, Zv, Zq, Zp, ev, sput, Zt, Zx, Zz, unK, Zd, Zw, Nat.reduceBEq, Nat.reduceAdd, Int.reduceBEq, Int.reduceBNe, Int.reduceLT, Zu, Zy, tup, tyf, add1 (show k < 9223372036854775807 by omega)]
      refine hQ2 _ _ _ ⟨k + 1, ⟨by omega, fun i hi => ?_⟩, by omega, by simp (maxSteps := 2000000) only [↓Za, ↓Zl, ↓Zr, ↓Ze, ↓Zo, ↓Zs, ↓Zg, ↓Zj, ↓Zf, ↓Zc, ↓Zb, ↓vdn, vup, Zn, Zm, Zi, Zh, Zk, List.map_cons, List.map_nil, cond_true, cond_false, aop, Zv, Zq, Zp, ev, sput, Zt, Zx, Zz, unK, Zd, Zw, Nat.reduceBEq, Nat.reduceAdd, Int.reduceBEq, Int.reduceBNe, Int.reduceLT, Zu, Zy, tup, tyf], rfl⟩
      by_cases he : i = k
      · rw [he, hzz, h0]
      · exact hz i (by omega)
    · have hz0 : (z != 0) = true := by simpa using h0
      rw [hz0]
      refine Wb rfl ?_
      refine Yf ?_
      simp (maxSteps := 2000000) only [s88, ↓Za, ↓Zl, ↓Zr, ↓Ze, ↓Zo, ↓Zs, ↓Zg, ↓Zj, ↓Zf, ↓Zc, ↓Zb, ↓vdn, vup, Zn, Zm, Zi, Zh, Zk, List.map_cons, List.map_nil, cond_true, cond_false, aop, Zv, Zq, Zp, ev, sput, Zt, Zx, Zz, unK, Zd, Zw, Nat.reduceBEq, Nat.reduceAdd, Int.reduceBEq, Int.reduceBNe, Int.reduceLT, Zu, Zy, tup, tyf]
      refine hQ2 _ _ _ (hQ _ _ _ ?_)
      have hres : z = if x = 0 then y else x := by
        have hk01 : k = 0 ∨ k = 1 := by omega
        rcases hk01 with rfl | rfl
        · have e : x = z := hzz
          rw [e, if_neg h0]
        · have e : y = z := hzz
          have e0 : x = 0 := hz 0 (by omega)
          rw [if_pos e0, e]
      simp (maxSteps := 2000000) only [s88, ↓Za, ↓Zl, ↓Zr, ↓Ze, ↓Zo, ↓Zs, ↓Zg, ↓Zj, ↓Zf, ↓Zc, ↓Zb, ↓vdn, vup, Zn, Zm, Zi, Zh, Zk, List.map_cons, List.map_nil, cond_true, cond_false, aop, Zv, Zq, Zp, ev, sput, Zt, Zx, Zz, unK, Zd, Zw, Nat.reduceBEq, Nat.reduceAdd, Int.reduceBEq, Int.reduceBNe, Int.reduceLT, Zu, Zy, tup, tyf, hres]
  · obtain rfl : k = 2 := by omega
    refine Yc fun N17 hN17 => ?_
    simp (maxSteps := 2000000) only [s88, ↓Za, ↓Zl, ↓Zr, ↓Ze, ↓Zo, ↓Zs, ↓Zg, ↓Zj, ↓Zf, ↓Zc, ↓Zb, ↓vdn, vup, Zn, Zm, Zi, Zh, Zk, List.map_cons, List.map_nil, cond_true, cond_false, aop, Zv, Zq, Zp, ev, sput, Zt, Zx, Zz, unK, Zd, Zw, Nat.reduceBEq, Nat.reduceAdd, Int.reduceBEq, Int.reduceBNe, Int.reduceLT, Zu, Zy, tup, tyf, hin]
    refine hN17 [(0, v), (2, .int .i64 0), (3, .int .i64 0), (6, v), (7, .int .i64 2), (8, Yb (2 : Nat)), (9, .bool false)] _ _ ?_ (by simp (maxSteps := 2000000) only [↓Za, ↓Zl, ↓Zr, ↓Ze, ↓Zo, ↓Zs, ↓Zg, ↓Zj, ↓Zf, ↓Zc, ↓Zb, ↓vdn, vup, Zn, Zm, Zi, Zh, Zk, List.map_cons, List.map_nil, cond_true, cond_false, aop, Zv, Zq, Zp, ev, sput, Zt, Zx, Zz, unK, Zd, Zw, Nat.reduceBEq, Nat.reduceAdd, Int.reduceBEq, Int.reduceBNe, Int.reduceLT, Zu, Zy, tup, tyf])
    clear hN17
    try clear N17
    refine Yc fun N18 hN18 => ?_
    simp (maxSteps := 2000000) only [s88, ↓Za, ↓Zl, ↓Zr, ↓Ze, ↓Zo, ↓Zs, ↓Zg, ↓Zj, ↓Zf, ↓Zc, ↓Zb, ↓vdn, vup, Zn, Zm, Zi, Zh, Zk, List.map_cons, List.map_nil, cond_true, cond_false, aop, Zv, Zq, Zp, ev, sput, Zt, Zx, Zz, unK, Zd, Zw, Nat.reduceBEq, Nat.reduceAdd, Int.reduceBEq, Int.reduceBNe, Int.reduceLT, Zu, Zy, tup, tyf]
    refine hQ2 _ _ _ (hQ _ _ _ ?_)
    simp (maxSteps := 2000000) only [s88, ↓Za, ↓Zl, ↓Zr, ↓Ze, ↓Zo, ↓Zs, ↓Zg, ↓Zj, ↓Zf, ↓Zc, ↓Zb, ↓vdn, vup, Zn, Zm, Zi, Zh, Zk, List.map_cons, List.map_nil, cond_true, cond_false, aop, Zv, Zq, Zp, ev, sput, Zt, Zx, Zz, unK, Zd, Zw, Nat.reduceBEq, Nat.reduceAdd, Int.reduceBEq, Int.reduceBNe, Int.reduceLT, Zu, Zy, tup, tyf, if_true]
    refine hZ [(0, v), (2, .int .i64 0), (3, .int .i64 0)] _ _ ?_ (by simp (maxSteps := 2000000) only [↓Za, ↓Zl, ↓Zr, ↓Ze, ↓Zo, ↓Zs, ↓Zg, ↓Zj, ↓Zf, ↓Zc, ↓Zb, ↓vdn, vup, Zn, Zm, Zi, Zh, Zk, List.map_cons, List.map_nil, cond_true, cond_false, aop, Zv, Zq, Zp, ev, sput, Zt, Zx, Zz, unK, Zd, Zw, Nat.reduceBEq, Nat.reduceAdd, Int.reduceBEq, Int.reduceBNe, Int.reduceLT, Zu, Zy, tup, tyf])
    clear hZ
    try clear Z
    have e0 : x = 0 := hz 0 (by omega)
    have e1 : y = 0 := hz 1 (by omega)
    refine Yf ?_
    simp (maxSteps := 2000000) only [s88, ↓Za, ↓Zl, ↓Zr, ↓Ze, ↓Zo, ↓Zs, ↓Zg, ↓Zj, ↓Zf, ↓Zc, ↓Zb, ↓vdn, vup, Zn, Zm, Zi, Zh, Zk, List.map_cons, List.map_nil, cond_true, cond_false, aop, Zv, Zq, Zp, ev, sput, Zt, Zx, Zz, unK, Zd, Zw, Nat.reduceBEq, Nat.reduceAdd, Int.reduceBEq, Int.reduceBNe, Int.reduceLT, Zu, Zy, tup, tyf, e0, e1, if_true]

/-- The order of sets: more elements first, then the lesser. -/
def cmpS (a b : Nat) : Int := if ((Am.bits b).length : Int) - (Am.bits a).length = 0 then (a : Int) - b else ((Am.bits b).length : Int) - (Am.bits a).length
theorem bits_le64 (s : Nat) : (Am.bits s).length ≤ 64 := by
  have := List.length_filter_le (fun i => s.testBit i) (List.range 64)
  rwa [List.length_range] at this
theorem s87_callW [Tabs Tryd.prog] {args : List Value} {h : Ya} {Q : Value → Ya → Prop} (hsz : args.length ≤ 15) (hk : AWS Tryd.prog 15 s87 (Zu Tryd.prog [.tmp 4] Q) (Zp 0 args) h) : ACall Tryd.prog 87 args h Q :=
  Xu Tryd.func87 rfl (enters_of Tryd.func87 (by kernel_rfl) rfl) rfl rfl (by decide) s87_strip s87_ok hsz hk
theorem cmpS_call [Tabs prog] {h : Ya} {a b : Nat} (ha : a < 256) (hb : b < 256) : Wo prog 87 [Yb (a : Nat), Yb (b : Nat)] h (Yb (cmpS a b)) := by
  refine ACall.forget (Low.int _ _) ?_
  have l1 := bits_le64 a
  have l2 := bits_le64 b
  refine s87_callW (by simp) ?_
  simp only [s87]
  refine Yc fun N19 hN19 => ?_
  simp (maxSteps := 2000000) only [s87, ↓Za, ↓Zl, ↓Zr, ↓Ze, ↓Zo, ↓Zs, ↓Zg, ↓Zj, ↓Zf, ↓Zc, ↓Zb, ↓vdn, vup, Zn, Zm, Zi, Zh, Zk, List.map_cons, List.map_nil, cond_true, cond_false, aop, Zv, Zq, Zp, ev, sput, Zt, Zx, Zz, unK, Zd, Zw, Nat.reduceBEq, Nat.reduceAdd, Int.reduceBEq, Int.reduceBNe, Int.reduceLT, Zu, Zy, tup, tyf]
  refine hN19 [(0, Yb (a : Nat)), (1, Yb (b : Nat)), (4, .int .i64 0)] _ _ ?_ (by simp (maxSteps := 2000000) only [↓Za, ↓Zl, ↓Zr, ↓Ze, ↓Zo, ↓Zs, ↓Zg, ↓Zj, ↓Zf, ↓Zc, ↓Zb, ↓vdn, vup, Zn, Zm, Zi, Zh, Zk, List.map_cons, List.map_nil, cond_true, cond_false, aop, Zv, Zq, Zp, ev, sput, Zt, Zx, Zz, unK, Zd, Zw, Nat.reduceBEq, Nat.reduceAdd, Int.reduceBEq, Int.reduceBNe, Int.reduceLT, Zu, Zy, tup, tyf])
  clear hN19
  try clear N19
  refine Yf ?_
  simp (maxSteps := 2000000) only [s87, ↓Za, ↓Zl, ↓Zr, ↓Ze, ↓Zo, ↓Zs, ↓Zg, ↓Zj, ↓Zf, ↓Zc, ↓Zb, ↓vdn, vup, Zn, Zm, Zi, Zh, Zk, List.map_cons, List.map_nil, cond_true, cond_false, aop, Zv, Zq, Zp, ev, sput, Zt, Zx, Zz, unK, Zd, Zw, Nat.reduceBEq, Nat.reduceAdd, Int.reduceBEq, Int.reduceBNe, Int.reduceLT, Zu, Zy, tup, tyf, Yt, List.nil_append, List.append_nil, List.toList_toArray, List.cons_append]
  refine (cntb_call hb).mono ?_
  rintro _ h ⟨rfl, rfl⟩
  refine (cntb_call ha).mono ?_
  rintro _ h ⟨rfl, rfl⟩
  have s1 : subV .i64 (((Am.bits b).length : Nat) : Int) (((Am.bits a).length : Nat) : Int) = ((Am.bits b).length : Int) - (Am.bits a).length := subV_id (by omega) (by omega)
  have s2 : subV .i64 ((a : Nat) : Int) ((b : Nat) : Int) = (a : Int) - b := subV_id (by omega) (by omega)
  try simp (maxSteps := 2000000) only [s87, ↓Za, ↓Zl, ↓Zr, ↓Ze, ↓Zo, ↓Zs, ↓Zg, ↓Zj, ↓Zf, ↓Zc, ↓Zb, ↓vdn, vup, Zn, Zm, Zi, Zh, Zk, List.map_cons, List.map_nil, cond_true, cond_false, aop, Zv, Zq, Zp, ev, sput, Zt, Zx, Zz, unK, Zd, Zw, Nat.reduceBEq, Nat.reduceAdd, Int.reduceBEq, Int.reduceBNe, Int.reduceLT, Zu, Zy, tup, tyf, s1, s2, List.map_toArray, lit2, Yt, List.nil_append, List.append_nil, List.toList_toArray, List.cons_append]
  refine (or_call litSl).mono ?_
  rintro _ _ ⟨rfl, rfl⟩
  simp (maxSteps := 2000000) only [s87, ↓Za, ↓Zl, ↓Zr, ↓Ze, ↓Zo, ↓Zs, ↓Zg, ↓Zj, ↓Zf, ↓Zc, ↓Zb, ↓vdn, vup, Zn, Zm, Zi, Zh, Zk, List.map_cons, List.map_nil, cond_true, cond_false, aop, Zv, Zq, Zp, ev, sput, Zt, Zx, Zz, unK, Zd, Zw, Nat.reduceBEq, Nat.reduceAdd, Int.reduceBEq, Int.reduceBNe, Int.reduceLT, Zu, Zy, tup, tyf, cmpS]
  exact Ext.app _ _ _

/-- Which of the first k is the least. -/
structure MinI (L : List Nat) (k m : Nat) : Prop where
  at_ : ∃ a, a < k ∧ L.getD a 0 = m ∧ ∀ b, b < a → (Am.bits (L.getD b 0)).length < (Am.bits m).length
  le : ∀ b, b < k → (Am.bits (L.getD b 0)).length ≤ (Am.bits m).length
theorem MinI.step {L : List Nat} {k m : Nat} (h : MinI L k m) (hs : ∀ a b, a < b → b < L.length → L.getD a 0 < L.getD b 0) (hk : k < L.length) : (cmpS (L.getD k 0) m < 0 → MinI L (k + 1) (L.getD k 0)) ∧ (¬ cmpS (L.getD k 0) m < 0 → MinI L (k + 1) m) := by
  obtain ⟨⟨a, ha, ham, hb⟩, hle⟩ := h
  have hlt : m < L.getD k 0 := by rw [← ham]; exact hs a k ha hk
  have hc : cmpS (L.getD k 0) m < 0 ↔ (Am.bits m).length < (Am.bits (L.getD k 0)).length := by
    rw [cmpS]; split <;> omega
  constructor
  · intro h1
    have h2 := hc.1 h1
    refine ⟨⟨k, by omega, rfl, fun b hb' => ?_⟩, fun b hb' => ?_⟩
    · have := hle b hb'; omega
    · by_cases he : b = k
      · rw [he]; exact Nat.le_refl _
      · have := hle b (by omega); omega
  · intro h1
    have h2 : ¬ (Am.bits m).length < (Am.bits (L.getD k 0)).length := fun h => h1 (hc.2 h)
    refine ⟨⟨a, by omega, ham, hb⟩, fun b hb' => ?_⟩
    by_cases he : b = k
    · rw [he]; omega
    · exact hle b (by omega)
theorem setsL_sorted (o : List Int) (p : Nat → Bool) : (setsL o p).Pairwise (· < ·) := (List.pairwise_lt_range).filter _
theorem pw_get {L : List Nat} (h : L.Pairwise (· < ·)) {a b : Nat} (hab : a < b) (hb : b < L.length) : L.getD a 0 < L.getD b 0 := by
  rw [List.getD, List.getD, List.getElem?_eq_getElem hb, List.getElem?_eq_getElem (show a < L.length by omega)]
  exact List.pairwise_iff_getElem.1 h a b _ _ hab
theorem mem_setsL {o : List Int} {p : Nat → Bool} {s : Nat} : s ∈ setsL o p ↔ s < 2 ^ o.length ∧ p s = true := by rw [setsL, List.mem_filter, List.mem_range]
theorem getD_memN {L : List Nat} {a : Nat} (h : a < L.length) : L.getD a 0 ∈ L := by rw [List.getD, List.getElem?_eq_getElem h]; exact List.getElem_mem h
theorem minI_anti {o : List Int} {m : Nat} (hp : 0 < 2 ^ o.length) (h : MinI (setsL o fun s => uni o s true) (setsL o fun s => uni o s true).length m) : m = Wv o := by
  obtain ⟨L, hL⟩ : ∃ L, L = setsL o fun s => uni o s true := ⟨_, rfl⟩
  have hs := setsL_sorted o fun s => uni o s true
  rw [← hL] at h hs
  have hm : ∀ s, s ∈ L ↔ s < 2 ^ o.length ∧ uni o s true = true := fun s => by rw [hL]; exact mem_setsL
  obtain ⟨⟨a, ha, ham, hb⟩, hle⟩ := h
  obtain ⟨m1, m2, m3, m4⟩ := antiTo_spec o (2 ^ o.length) hp
  have hM : Xb o (2 ^ o.length) = Wv o := rfl
  rw [hM] at m1 m2 m3 m4
  have hmL := (hm _).1 (getD_memN ha)
  rw [ham] at hmL
  obtain ⟨c, hc, hcm⟩ := List.mem_iff_getElem.1 ((hm _).2 ⟨m1, m2⟩)
  have hcg : L.getD c 0 = Wv o := by rw [List.getD, List.getElem?_eq_getElem hc, hcm]; rfl
  have e1 := hle c hc
  rw [hcg] at e1
  have e2 := m3 m hmL.1 hmL.2
  rcases Nat.lt_trichotomy m (Wv o) with h1 | h1 | h1
  · have := m4 m h1 hmL.2; omega
  · exact h1
  · exfalso
    rcases Nat.lt_trichotomy a c with h2 | h2 | h2
    · have := pw_get hs h2 hc; rw [ham, hcg] at this; omega
    · rw [h2, hcg] at ham; omega
    · have := hb c h2; rw [hcg] at this; omega

theorem s86_callW [Tabs Tryd.prog] {args : List Value} {h : Ya} {Q : Value → Ya → Prop} (hsz : args.length ≤ 33) (hk : AWS Tryd.prog 33 s86 (Zu Tryd.prog [.tmp 4] Q) (Zp 0 args) h) : ACall Tryd.prog 86 args h Q :=
  Xu Tryd.func86 rfl (enters_of Tryd.func86 (by kernel_rfl) rfl) rfl rfl (by decide) s86_strip s86_ok hsz hk
theorem minS_call [Tabs prog] {h : Ya} {v : Value} {L : List Nat} (hv : IntSl h v (iL L)) (hs : L.Pairwise (· < ·)) (hx : ∀ x ∈ L, x < 256) (h0 : 0 < L.length) (hl : L.length < 9223372036854775807) : ACall prog 86 [v, .func (.func 87) #[] #[]] h fun r h' => h' = h ∧ ∃ m, r = Yb (m : Nat) ∧ MinI L L.length m := by
  have hlen : (iL L).length = L.length := Wy L
  have n1 : ¬ ((L.length : Nat) : Int) < 1 := by omega
  have hget : ∀ i, i < L.length → L.getD i 0 < 256 := fun i hi => hx _ (getD_memN hi)
  have hi0 : ∀ K : Value → Prop, Yv prog 22 v (.int .i64 0) K = K (elemP v 1 0) := fun K => by
    have := hv.idx Xm Xh (k := .i64) (show 0 < (iL L).length by rw [hlen]; exact h0) K
    simpa using this
  refine s86_callW (by simp) ?_
  simp only [s86]
  refine Yc fun N20 hN20 => ?_
  simp (maxSteps := 2000000) only [s86, ↓Za, ↓Zl, ↓Zr, ↓Ze, ↓Zo, ↓Zs, ↓Zg, ↓Zj, ↓Zf, ↓Zc, ↓Zb, ↓vdn, vup, Zn, Zm, Zi, Zh, Zk, List.map_cons, List.map_nil, cond_true, cond_false, aop, Zv, Zq, Zp, ev, sput, Zt, Zx, Zz, unK, Zd, Zw, Nat.reduceBEq, Nat.reduceAdd, Int.reduceBEq, Int.reduceBNe, Int.reduceLT, Zu, Zy, tup, tyf]
  refine hN20 [(0, v), (1, .func (.func 87) #[] #[]), (4, .int .i64 0)] _ _ ?_ (by simp (maxSteps := 2000000) only [↓Za, ↓Zl, ↓Zr, ↓Ze, ↓Zo, ↓Zs, ↓Zg, ↓Zj, ↓Zf, ↓Zc, ↓Zb, ↓vdn, vup, Zn, Zm, Zi, Zh, Zk, List.map_cons, List.map_nil, cond_true, cond_false, aop, Zv, Zq, Zp, ev, sput, Zt, Zx, Zz, unK, Zd, Zw, Nat.reduceBEq, Nat.reduceAdd, Int.reduceBEq, Int.reduceBNe, Int.reduceLT, Zu, Zy, tup, tyf])
  clear hN20
  try clear N20
  refine Yk fun A hA => ?_
  refine Yc fun N21 hN21 => ?_
  simp (maxSteps := 2000000) only [s86, ↓Za, ↓Zl, ↓Zr, ↓Ze, ↓Zo, ↓Zs, ↓Zg, ↓Zj, ↓Zf, ↓Zc, ↓Zb, ↓vdn, vup, Zn, Zm, Zi, Zh, Zk, List.map_cons, List.map_nil, cond_true, cond_false, aop, Zv, Zq, Zp, ev, sput, Zt, Zx, Zz, unK, Zd, Zw, Nat.reduceBEq, Nat.reduceAdd, Int.reduceBEq, Int.reduceBNe, Int.reduceLT, Zu, Zy, tup, tyf, hv.len, hlen, n1]
  refine hN21 [(0, v), (1, .func (.func 87) #[] #[]), (4, .int .i64 0), (9, .bool false)] _ _ ?_ (by simp (maxSteps := 2000000) only [↓Za, ↓Zl, ↓Zr, ↓Ze, ↓Zo, ↓Zs, ↓Zg, ↓Zj, ↓Zf, ↓Zc, ↓Zb, ↓vdn, vup, Zn, Zm, Zi, Zh, Zk, List.map_cons, List.map_nil, cond_true, cond_false, aop, Zv, Zq, Zp, ev, sput, Zt, Zx, Zz, unK, Zd, Zw, Nat.reduceBEq, Nat.reduceAdd, Int.reduceBEq, Int.reduceBNe, Int.reduceLT, Zu, Zy, tup, tyf])
  clear hN21
  try clear N21
  refine Ys rfl ?_
  refine Yf ?_
  simp (maxSteps := 2000000) only [s86, ↓Za, ↓Zl, ↓Zr, ↓Ze, ↓Zo, ↓Zs, ↓Zg, ↓Zj, ↓Zf, ↓Zc, ↓Zb, ↓vdn, vup, Zn, Zm, Zi, Zh, Zk, List.map_cons, List.map_nil, cond_true, cond_false, aop, Zv, Zq, Zp, ev, sput, Zt, Zx, Zz, unK, Zd, Zw, Nat.reduceBEq, Nat.reduceAdd, Int.reduceBEq, Int.reduceBNe, Int.reduceLT, Zu, Zy, tup, tyf]
  refine hA [(0, v), (1, .func (.func 87) #[] #[]), (4, .int .i64 0)] _ _ ?_ (by simp (maxSteps := 2000000) only [↓Za, ↓Zl, ↓Zr, ↓Ze, ↓Zo, ↓Zs, ↓Zg, ↓Zj, ↓Zf, ↓Zc, ↓Zb, ↓vdn, vup, Zn, Zm, Zi, Zh, Zk, List.map_cons, List.map_nil, cond_true, cond_false, aop, Zv, Zq, Zp, ev, sput, Zt, Zx, Zz, unK, Zd, Zw, Nat.reduceBEq, Nat.reduceAdd, Int.reduceBEq, Int.reduceBNe, Int.reduceLT, Zu, Zy, tup, tyf])
  clear hA
  try clear A
  refine Yc fun N22 hN22 => ?_
  simp (maxSteps := 2000000) only [s86, ↓Za, ↓Zl, ↓Zr, ↓Ze, ↓Zo, ↓Zs, ↓Zg, ↓Zj, ↓Zf, ↓Zc, ↓Zb, ↓vdn, vup, Zn, Zm, Zi, Zh, Zk, List.map_cons, List.map_nil, cond_true, cond_false, aop, Zv, Zq, Zp, ev, sput, Zt, Zx, Zz, unK, Zd, Zw, Nat.reduceBEq, Nat.reduceAdd, Int.reduceBEq, Int.reduceBNe, Int.reduceLT, Zu, Zy, tup, tyf, hi0, hv.load Yp (show 0 < (iL L).length by rw [hlen]; exact h0), iL_get]
  refine hN22 [(0, v), (1, .func (.func 87) #[] #[]), (4, .int .i64 0), (5, Yb (L.getD 0 0 : Nat))] _ _ ?_ (by simp (maxSteps := 2000000) only [↓Za, ↓Zl, ↓Zr, ↓Ze, ↓Zo, ↓Zs, ↓Zg, ↓Zj, ↓Zf, ↓Zc, ↓Zb, ↓vdn, vup, Zn, Zm, Zi, Zh, Zk, List.map_cons, List.map_nil, cond_true, cond_false, aop, Zv, Zq, Zp, ev, sput, Zt, Zx, Zz, unK, Zd, Zw, Nat.reduceBEq, Nat.reduceAdd, Int.reduceBEq, Int.reduceBNe, Int.reduceLT, Zu, Zy, tup, tyf])
  clear hN22
  try clear N22
  refine Yk fun Z hZ => ?_
  refine Yc fun N23 hN23 => ?_
  simp (maxSteps := 2000000) only [s86, ↓Za, ↓Zl, ↓Zr, ↓Ze, ↓Zo, ↓Zs, ↓Zg, ↓Zj, ↓Zf, ↓Zc, ↓Zb, ↓vdn, vup, Zn, Zm, Zi, Zh, Zk, List.map_cons, List.map_nil, cond_true, cond_false, aop, Zv, Zq, Zp, ev, sput, Zt, Zx, Zz, unK, Zd, Zw, Nat.reduceBEq, Nat.reduceAdd, Int.reduceBEq, Int.reduceBNe, Int.reduceLT, Zu, Zy, tup, tyf]
  refine hN23 [(0, v), (1, .func (.func 87) #[] #[]), (4, .int .i64 0), (5, Yb (L.getD 0 0 : Nat)), (6, .int .i64 1)] _ _ ?_ (by simp (maxSteps := 2000000) only [↓Za, ↓Zl, ↓Zr, ↓Ze, ↓Zo, ↓Zs, ↓Zg, ↓Zj, ↓Zf, ↓Zc, ↓Zb, ↓vdn, vup, Zn, Zm, Zi, Zh, Zk, List.map_cons, List.map_nil, cond_true, cond_false, aop, Zv, Zq, Zp, ev, sput, Zt, Zx, Zz, unK, Zd, Zw, Nat.reduceBEq, Nat.reduceAdd, Int.reduceBEq, Int.reduceBNe, Int.reduceLT, Zu, Zy, tup, tyf])
  clear hN23
  try clear N23
  refine Yl ?_
  refine Yj fun Q hQ => ?_
  refine Xt (γ := Nat × Nat) (fun g => 1 ≤ g.1 ∧ g.1 ≤ L.length ∧ MinI L g.1 g.2) (fun g => ([(0, v), (1, .func (.func 87) #[] #[]), (4, .int .i64 0), (5, Yb (g.2 : Nat)), (6, Yb (g.1 : Nat))], h)) (fun g => L.length - g.1) (1, L.getD 0 0) ⟨Nat.le_refl _, h0, ⟨⟨0, by omega, rfl, fun b hb => absurd hb (Nat.not_lt_zero b)⟩, fun b hb => by rw [show b = 0 by omega]; exact Nat.le_refl _⟩⟩ (by simp (maxSteps := 2000000) only [↓Za, ↓Zl, ↓Zr, ↓Ze, ↓Zo, ↓Zs, ↓Zg, ↓Zj, ↓Zf, ↓Zc, ↓Zb, ↓vdn, vup, Zn, Zm, Zi, Zh, Zk, List.map_cons, List.map_nil, cond_true, cond_false, aop, Zv, Zq, Zp, ev, sput, Zt, Zx, Zz, unK, Zd, Zw, Nat.reduceBEq, Nat.reduceAdd, Int.reduceBEq, Int.reduceBNe, Int.reduceLT, Zu, Zy, tup, tyf, Int.natCast_one]) rfl ?_
  rintro ⟨k, m⟩ ⟨hk1, hk, hm⟩
  simp only at hk1 hk hm
  refine Yj fun Q2 hQ2 => ?_
  simp only [l86_0]
  by_cases hin : (k : Int) < L.length
  · have hk' : k < L.length := by omega
    have hk2 : k < (iL L).length := by rw [hlen]; exact hk'
    obtain ⟨hst1, hst2⟩ := hm.step (fun a b => pw_get hs) hk'
    have hm256 : m < 256 := by
      obtain ⟨a, ha, ham, _⟩ := hm.at_
      rw [← ham]; exact hget a (by omega)
    refine Yk fun C hC => ?_
    refine Yc fun N24 hN24 => ?_
    simp (maxSteps := 2000000) only [s86, ↓Za, ↓Zl, ↓Zr, ↓Ze, ↓Zo, ↓Zs, ↓Zg, ↓Zj, ↓Zf, ↓Zc, ↓Zb, ↓vdn, vup, Zn, Zm, Zi, Zh, Zk, List.map_cons, List.map_nil, cond_true, cond_false, aop, Zv, Zq, Zp, ev, sput, Zt, Zx, Zz, unK, Zd, Zw, Nat.reduceBEq, Nat.reduceAdd, Int.reduceBEq, Int.reduceBNe, Int.reduceLT, Zu, Zy, tup, tyf, hv.len, hlen, hin]
    refine hN24 [(0, v), (1, .func (.func 87) #[] #[]), (4, .int .i64 0), (5, Yb (m : Nat)), (6, Yb (k : Nat)), (17, .bool true)] _ _ ?_ (by simp (maxSteps := 2000000) only [↓Za, ↓Zl, ↓Zr, ↓Ze, ↓Zo, ↓Zs, ↓Zg, ↓Zj, ↓Zf, ↓Zc, ↓Zb, ↓vdn, vup, Zn, Zm, Zi, Zh, Zk, List.map_cons, List.map_nil, cond_true, cond_false, aop, Zv, Zq, Zp, ev, sput, Zt, Zx, Zz, unK, Zd, Zw, Nat.reduceBEq, Nat.reduceAdd, Int.reduceBEq, Int.reduceBNe, Int.reduceLT, Zu, Zy, tup, tyf])
    clear hN24
    try clear N24
    refine Wb rfl ?_
    refine Yf ?_
    simp (maxSteps := 2000000) only [s86, ↓Za, ↓Zl, ↓Zr, ↓Ze, ↓Zo, ↓Zs, ↓Zg, ↓Zj, ↓Zf, ↓Zc, ↓Zb, ↓vdn, vup, Zn, Zm, Zi, Zh, Zk, List.map_cons, List.map_nil, cond_true, cond_false, aop, Zv, Zq, Zp, ev, sput, Zt, Zx, Zz, unK, Zd, Zw, Nat.reduceBEq, Nat.reduceAdd, Int.reduceBEq, Int.reduceBNe, Int.reduceLT, Zu, Zy, tup, tyf]
    refine hC [(0, v), (1, .func (.func 87) #[] #[]), (4, .int .i64 0), (5, Yb (m : Nat)), (6, Yb (k : Nat))] _ _ ?_ (by simp (maxSteps := 2000000) only [↓Za, ↓Zl, ↓Zr, ↓Ze, ↓Zo, ↓Zs, ↓Zg, ↓Zj, ↓Zf, ↓Zc, ↓Zb, ↓vdn, vup, Zn, Zm, Zi, Zh, Zk, List.map_cons, List.map_nil, cond_true, cond_false, aop, Zv, Zq, Zp, ev, sput, Zt, Zx, Zz, unK, Zd, Zw, Nat.reduceBEq, Nat.reduceAdd, Int.reduceBEq, Int.reduceBNe, Int.reduceLT, Zu, Zy, tup, tyf])
    clear hC
    try clear C
    refine Yk fun B hB => ?_
    refine Yl ?_
    refine Yc fun N25 hN25 => ?_
    simp (maxSteps := 2000000) only [s86, ↓Za, ↓Zl, ↓Zr, ↓Ze, ↓Zo, ↓Zs, ↓Zg, ↓Zj, ↓Zf, ↓Zc, ↓Zb, ↓vdn, vup, Zn, Zm, Zi, Zh, Zk, List.map_cons, List.map_nil, cond_true, cond_false, aop, Zv, Zq, Zp, ev, sput, Zt, Zx, Zz, unK, Zd, Zw, Nat.reduceBEq, Nat.reduceAdd, Int.reduceBEq, Int.reduceBNe, Int.reduceLT, Zu, Zy, tup, tyf, Yt, List.nil_append, List.append_nil, List.toList_toArray, List.cons_append, hv.idx Xm Xh hk2, hv.load Yp hk2, iL_get]
    refine (cmpS_call (hget k hk') hm256).mono ?_
    rintro _ h ⟨rfl, rfl⟩
    by_cases hc : cmpS (L.getD k 0) m < 0
    · simp (maxSteps := 2000000) only [s86, ↓Za, ↓Zl, ↓Zr, ↓Ze, ↓Zo, ↓Zs, ↓Zg, ↓Zj, ↓Zf, ↓Zc, ↓Zb, ↓vdn, vup, Zn, Zm, Zi, Zh, Zk, List.map_cons, List.map_nil, cond_true, cond_false, aop, Zv, Zq, Zp, ev, sput, Zt, Zx, Zz, unK, Zd, Zw, Nat.reduceBEq, Nat.reduceAdd, Int.reduceBEq, Int.reduceBNe, Int.reduceLT, Zu, Zy, tup, tyf, decide_eq_true hc]
      refine hN25 [(0, v), (1, .func (.func 87) #[] #[]), (4, .int .i64 0), (5, Yb (m : Nat)), (6, Yb (k : Nat)), (27, .bool true)] _ _ ?_ (by simp (maxSteps := 2000000) only [↓Za, ↓Zl, ↓Zr, ↓Ze, ↓Zo, ↓Zs, ↓Zg, ↓Zj, ↓Zf, ↓Zc, ↓Zb, ↓vdn, vup, Zn, Zm, Zi, Zh, Zk, List.map_cons, List.map_nil, cond_true, cond_false, aop, Zv, Zq, Zp, ev, sput, Zt, Zx, Zz, unK, Zd, Zw, Nat.reduceBEq, Nat.reduceAdd, Int.reduceBEq, Int.reduceBNe, Int.reduceLT, Zu, Zy, tup, tyf])
      clear hN25
      try clear N25
      refine Wb rfl ?_
      refine Yf ?_
      simp (maxSteps := 2000000) only [s86, ↓Za, ↓Zl, ↓Zr, ↓Ze, ↓Zo, ↓Zs, ↓Zg, ↓Zj, ↓Zf, ↓Zc, ↓Zb, ↓vdn, vup, Zn, Zm, Zi, Zh, Zk, List.map_cons, List.map_nil, cond_true, cond_false, aop, Zv, Zq, Zp, ev, sput, Zt, Zx, Zz, unK, Zd, Zw, Nat.reduceBEq, Nat.reduceAdd, Int.reduceBEq, Int.reduceBNe, Int.reduceLT, Zu, Zy, tup, tyf, hv.idx Xm Xh hk2, hv.load Yp hk2, iL_get]
      refine hB [(0, v), (1, .func (.func 87) #[] #[]), (4, .int .i64 0), (5, Yb (L.getD k 0 : Nat)), (6, Yb (k : Nat))] _ _ ?_ (by simp (maxSteps := 2000000) only [↓Za, ↓Zl, ↓Zr, ↓Ze, ↓Zo, ↓Zs, ↓Zg, ↓Zj, ↓Zf, ↓Zc, ↓Zb, ↓vdn, vup, Zn, Zm, Zi, Zh, Zk, List.map_cons, List.map_nil, cond_true, cond_false, aop, Zv, Zq, Zp, ev, sput, Zt, Zx, Zz, unK, Zd, Zw, Nat.reduceBEq, Nat.reduceAdd, Int.reduceBEq, Int.reduceBNe, Int.reduceLT, Zu, Zy, tup, tyf])
      clear hB
      try clear B
      refine Yf ?_
      simp (maxSteps := 2000000) only [s86, ↓Za, ↓Zl, ↓Zr, ↓Ze, ↓Zo, ↓Zs, ↓Zg, ↓Zj, ↓Zf, ↓Zc, ↓Zb, ↓vdn, vup, Zn, Zm, Zi, Zh, Zk, List.map_cons, List.map_nil, cond_true, cond_false, aop, Zv, Zq, Zp, ev, sput, Zt, Zx, Zz, unK, Zd, Zw, Nat.reduceBEq, Nat.reduceAdd, Int.reduceBEq, Int.reduceBNe, Int.reduceLT, Zu, Zy, tup, tyf, add1 (show k < 9223372036854775807 by omega)]
      exact hQ2 _ _ _ ⟨(k + 1, L.getD k 0), ⟨by simp only; omega, hk', hst1 hc⟩, by simp only; omega, by simp (maxSteps := 2000000) only [↓Za, ↓Zl, ↓Zr, ↓Ze, ↓Zo, ↓Zs, ↓Zg, ↓Zj, ↓Zf, ↓Zc, ↓Zb, ↓vdn, vup, Zn, Zm, Zi, Zh, Zk, List.map_cons, List.map_nil, cond_true, cond_false, aop, Zv, Zq, Zp, ev, sput, Zt, Zx, Zz, unK, Zd, Zw, Nat.reduceBEq, Nat.reduceAdd, Int.reduceBEq, Int.reduceBNe, Int.reduceLT, Zu, Zy, tup, tyf], rfl⟩
    · simp (maxSteps := 2000000) only [s86, ↓Za, ↓Zl, ↓Zr, ↓Ze, ↓Zo, ↓Zs, ↓Zg, ↓Zj, ↓Zf, ↓Zc, ↓Zb, ↓vdn, vup, Zn, Zm, Zi, Zh, Zk, List.map_cons, List.map_nil, cond_true, cond_false, aop, Zv, Zq, Zp, ev, sput, Zt, Zx, Zz, unK, Zd, Zw, Nat.reduceBEq, Nat.reduceAdd, Int.reduceBEq, Int.reduceBNe, Int.reduceLT, Zu, Zy, tup, tyf, decide_eq_false hc]
      refine hN25 [(0, v), (1, .func (.func 87) #[] #[]), (4, .int .i64 0), (5, Yb (m : Nat)), (6, Yb (k : Nat)), (27, .bool false)] _ _ ?_ (by simp (maxSteps := 2000000) only [↓Za, ↓Zl, ↓Zr, ↓Ze, ↓Zo, ↓Zs, ↓Zg, ↓Zj, ↓Zf, ↓Zc, ↓Zb, ↓vdn, vup, Zn, Zm, Zi, Zh, Zk, List.map_cons, List.map_nil, cond_true, cond_false, aop, Zv, Zq, Zp, ev, sput, Zt, Zx, Zz, unK, Zd, Zw, Nat.reduceBEq, Nat.reduceAdd, Int.reduceBEq, Int.reduceBNe, Int.reduceLT, Zu, Zy, tup, tyf])
      clear hN25
      try clear N25
      refine Ys rfl ?_
      refine Yf ?_
      simp (maxSteps := 2000000) only [s86, ↓Za, ↓Zl, ↓Zr, ↓Ze, ↓Zo, ↓Zs, ↓Zg, ↓Zj, ↓Zf, ↓Zc, ↓Zb, ↓vdn, vup, Zn, Zm, Zi, Zh, Zk, List.map_cons, List.map_nil, cond_true, cond_false, aop, Zv, Zq, Zp, ev, sput, Zt, Zx, Zz, unK, Zd, Zw, Nat.reduceBEq, Nat.reduceAdd, Int.reduceBEq, Int.reduceBNe, Int.reduceLT, Zu, Zy, tup, tyf]
      refine hB [(0, v), (1, .func (.func 87) #[] #[]), (4, .int .i64 0), (5, Yb (m : Nat)), (6, Yb (k : Nat))] _ _ ?_ (by simp (maxSteps := 2000000) only [↓Za, ↓Zl, ↓Zr, ↓Ze, ↓Zo, ↓Zs, ↓Zg, ↓Zj, ↓Zf, ↓Zc, ↓Zb, ↓vdn, vup, Zn, Zm, Zi, Zh, Zk, List.map_cons, List.map_nil, cond_true, cond_false, aop, Zv, Zq, Zp, ev, sput, Zt, Zx, Zz, unK, Zd, Zw, Nat.reduceBEq, Nat.reduceAdd, Int.reduceBEq, Int.reduceBNe, Int.reduceLT, Zu, Zy, tup, tyf])
      clear hB
      try clear B
      refine Yf ?_
      simp (maxSteps := 2000000) only [s86, ↓Za, ↓Zl, ↓Zr, ↓Ze, ↓Zo, ↓Zs, ↓Zg, ↓Zj, ↓Zf, ↓Zc, ↓Zb, ↓vdn, vup, Zn, Zm, Zi, Zh, Zk, List.map_cons, List.map_nil, cond_true, cond_false, aop, Zv, Zq, Zp, ev, sput, Zt, Zx, Zz, unK, Zd, Zw, Nat.reduceBEq, Nat.reduceAdd, Int.reduceBEq, Int.reduceBNe, Int.reduceLT, Zu, Zy, tup, tyf, add1 (show k < 9223372036854775807 by omega)]
      exact hQ2 _ _ _ ⟨(k + 1, m), ⟨by simp only; omega, hk', hst2 hc⟩, by simp only; omega, by simp (maxSteps := 2000000) only [↓Za, ↓Zl, ↓Zr, ↓Ze, ↓Zo, ↓Zs, ↓Zg, ↓Zj, ↓Zf, ↓Zc, ↓Zb, ↓vdn, vup, Zn, Zm, Zi, Zh, Zk, List.map_cons, List.map_nil, cond_true, cond_false, aop, Zv, Zq, Zp, ev, sput, Zt, Zx, Zz, unK, Zd, Zw, Nat.reduceBEq, Nat.reduceAdd, Int.reduceBEq, Int.reduceBNe, Int.reduceLT, Zu, Zy, tup, tyf], rfl⟩
  · obtain rfl : k = L.length := by omega
    refine Yk fun C hC => ?_
    refine Yc fun N26 hN26 => ?_
    simp (maxSteps := 2000000) only [s86, ↓Za, ↓Zl, ↓Zr, ↓Ze, ↓Zo, ↓Zs, ↓Zg, ↓Zj, ↓Zf, ↓Zc, ↓Zb, ↓vdn, vup, Zn, Zm, Zi, Zh, Zk, List.map_cons, List.map_nil, cond_true, cond_false, aop, Zv, Zq, Zp, ev, sput, Zt, Zx, Zz, unK, Zd, Zw, Nat.reduceBEq, Nat.reduceAdd, Int.reduceBEq, Int.reduceBNe, Int.reduceLT, Zu, Zy, tup, tyf, hv.len, hlen, hin]
    refine hN26 [(0, v), (1, .func (.func 87) #[] #[]), (4, .int .i64 0), (5, Yb (m : Nat)), (6, Yb L.length), (17, .bool false)] _ _ ?_ (by simp (maxSteps := 2000000) only [↓Za, ↓Zl, ↓Zr, ↓Ze, ↓Zo, ↓Zs, ↓Zg, ↓Zj, ↓Zf, ↓Zc, ↓Zb, ↓vdn, vup, Zn, Zm, Zi, Zh, Zk, List.map_cons, List.map_nil, cond_true, cond_false, aop, Zv, Zq, Zp, ev, sput, Zt, Zx, Zz, unK, Zd, Zw, Nat.reduceBEq, Nat.reduceAdd, Int.reduceBEq, Int.reduceBNe, Int.reduceLT, Zu, Zy, tup, tyf])
    clear hN26
    try clear N26
    refine Ys rfl ?_
    refine Yf ?_
    simp (maxSteps := 2000000) only [s86, ↓Za, ↓Zl, ↓Zr, ↓Ze, ↓Zo, ↓Zs, ↓Zg, ↓Zj, ↓Zf, ↓Zc, ↓Zb, ↓vdn, vup, Zn, Zm, Zi, Zh, Zk, List.map_cons, List.map_nil, cond_true, cond_false, aop, Zv, Zq, Zp, ev, sput, Zt, Zx, Zz, unK, Zd, Zw, Nat.reduceBEq, Nat.reduceAdd, Int.reduceBEq, Int.reduceBNe, Int.reduceLT, Zu, Zy, tup, tyf]
    refine hQ2 _ _ _ (hQ _ _ _ ?_)
    simp (maxSteps := 2000000) only [s86, ↓Za, ↓Zl, ↓Zr, ↓Ze, ↓Zo, ↓Zs, ↓Zg, ↓Zj, ↓Zf, ↓Zc, ↓Zb, ↓vdn, vup, Zn, Zm, Zi, Zh, Zk, List.map_cons, List.map_nil, cond_true, cond_false, aop, Zv, Zq, Zp, ev, sput, Zt, Zx, Zz, unK, Zd, Zw, Nat.reduceBEq, Nat.reduceAdd, Int.reduceBEq, Int.reduceBNe, Int.reduceLT, Zu, Zy, tup, tyf, if_true]
    refine hZ [(0, v), (1, .func (.func 87) #[] #[]), (4, .int .i64 0), (5, Yb (m : Nat)), (17, .bool false)] _ _ ?_ (by simp (maxSteps := 2000000) only [↓Za, ↓Zl, ↓Zr, ↓Ze, ↓Zo, ↓Zs, ↓Zg, ↓Zj, ↓Zf, ↓Zc, ↓Zb, ↓vdn, vup, Zn, Zm, Zi, Zh, Zk, List.map_cons, List.map_nil, cond_true, cond_false, aop, Zv, Zq, Zp, ev, sput, Zt, Zx, Zz, unK, Zd, Zw, Nat.reduceBEq, Nat.reduceAdd, Int.reduceBEq, Int.reduceBNe, Int.reduceLT, Zu, Zy, tup, tyf])
    clear hZ
    try clear Z
    refine Yf ?_
    simp (maxSteps := 2000000) only [s86, ↓Za, ↓Zl, ↓Zr, ↓Ze, ↓Zo, ↓Zs, ↓Zg, ↓Zj, ↓Zf, ↓Zc, ↓Zb, ↓vdn, vup, Zn, Zm, Zi, Zh, Zk, List.map_cons, List.map_nil, cond_true, cond_false, aop, Zv, Zq, Zp, ev, sput, Zt, Zx, Zz, unK, Zd, Zw, Nat.reduceBEq, Nat.reduceAdd, Int.reduceBEq, Int.reduceBNe, Int.reduceLT, Zu, Zy, tup, tyf]
    exact ⟨m, rfl, hm⟩

theorem s84_callW [Tabs Tryd.prog] {args : List Value} {h : Ya} {Q : Value → Ya → Prop} (hsz : args.length ≤ 8) (hk : AWS Tryd.prog 8 s84 (Zu Tryd.prog [.tmp 3] Q) (Zp 0 args) h) : ACall Tryd.prog 84 args h Q :=
  Xu Tryd.func84 rfl (enters_of Tryd.func84 (by kernel_rfl) rfl) rfl rfl (by decide) s84_strip s84_ok hsz hk
theorem anti1_call [BitTab prog 1] {h : Ya} {bo : Nat} {o : List Int} {s : Nat} (ho : ord o = true) (hs : s < 2 ^ o.length) (hb : h[bo]? = some (.cells (Vb o) 77 false)) : Wo prog 84 [Yb (s : Nat), .pointer (some ⟨bo, 0, none⟩)] h (.bool (uni o s true)) := by
  have hl := Yz ho
  have hp := pow6 hl.2
  have hpc := two_call (h := h) (s := s) (fn := 68) (first := #[ordV o]) (cap := #[]) (by omega) (fun i j => fr o i j == true) fun i j h' hi hj hji hE => by
    rw [show (fr o i j == true) = fr o i j by cases fr o i j <;> rfl]
    exact free_call ho (lt_bit hs hi) (lt_bit hs hj)
  rw [prB_uni hs hl.2] at hpc
  refine s84_callW (by simp) ?_
  refine Yf ?_
  simp (maxSteps := 2000000) only [s84, ↓Za, ↓Zl, ↓Zr, ↓Ze, ↓Zo, ↓Zs, ↓Zg, ↓Zj, ↓Zf, ↓Zc, ↓Zb, ↓vdn, vup, Zn, Zm, Zi, Zh, Zk, List.map_cons, List.map_nil, cond_true, cond_false, aop, Zv, Zq, Zp, ev, sput, Zt, Zx, Zz, unK, Zd, Zw, Nat.reduceBEq, Nat.reduceAdd, Int.reduceBEq, Int.reduceBNe, Int.reduceLT, Zu, Zy, tup, tyf, Yt, List.nil_append, List.append_nil, List.toList_toArray, List.cons_append, loadO hb Xf hl.2, List.map_toArray]
  refine (hpc).mono ?_
  rintro _ h ⟨rfl, rfl⟩
  simp (maxSteps := 2000000) only [s84, ↓Za, ↓Zl, ↓Zr, ↓Ze, ↓Zo, ↓Zs, ↓Zg, ↓Zj, ↓Zf, ↓Zc, ↓Zb, ↓vdn, vup, Zn, Zm, Zi, Zh, Zk, List.map_cons, List.map_nil, cond_true, cond_false, aop, Zv, Zq, Zp, ev, sput, Zt, Zx, Zz, unK, Zd, Zw, Nat.reduceBEq, Nat.reduceAdd, Int.reduceBEq, Int.reduceBNe, Int.reduceLT, Zu, Zy, tup, tyf]

/-- What Anti hands back. -/
def antiV (o : List Int) : Value := if ord o = true then .tuple #[Yb (Wv o : Nat), .int .i64 0] else .tuple #[.int .i64 0, .int .i64 2]
theorem anti_call [BitTab prog 1] {h : Ya} {v : Value} {o : List Int} (hv : IntSl h v o) (hl : o.length < 9223372036854775808) (hx : ∀ x ∈ o, -9223372036854775808 ≤ x ∧ x < 9223372036854775808) : Wo prog 48 [v] h (antiV o) := by
  have hlow : Low (antiV o) := by unfold antiV; split <;> exact .pair (.int _ _) (.int _ _)
  refine ACall.forget hlow ?_
  refine s48_call (by simp) ?_
  simp only [s48]
  simp (maxSteps := 2000000) only [s48, ↓Za, ↓Zl, ↓Zr, ↓Ze, ↓Zo, ↓Zs, ↓Zg, ↓Zj, ↓Zf, ↓Zc, ↓Zb, ↓vdn, vup, Zn, Zm, Zi, Zh, Zk, List.map_cons, List.map_nil, cond_true, cond_false, aop, Zv, Zq, Zp, ev, sput, Zt, Zx, Zz, unK, Zd, Zw, Nat.reduceBEq, Nat.reduceAdd, Int.reduceBEq, Int.reduceBNe, Int.reduceLT, Zu, Zy, tup, tyf, Yt, List.nil_append, List.append_nil, List.toList_toArray, List.cons_append]
  refine (read_call hv hl hx).mono ?_
  rintro _ g ⟨rfl, rfl⟩
  simp (maxSteps := 2000000) only [s48, ↓Za, ↓Zl, ↓Zr, ↓Ze, ↓Zo, ↓Zs, ↓Zg, ↓Zj, ↓Zf, ↓Zc, ↓Zb, ↓vdn, vup, Zn, Zm, Zi, Zh, Zk, List.map_cons, List.map_nil, cond_true, cond_false, aop, Zv, Zq, Zp, ev, sput, Zt, Zx, Zz, unK, Zd, Zw, Nat.reduceBEq, Nat.reduceAdd, Int.reduceBEq, Int.reduceBNe, Int.reduceLT, Zu, Zy, tup, tyf, Wr, Wp, zeroN, zero_77]
  rw [storeRd]
  obtain ⟨hE, hb⟩ := rdBox g o
  generalize hgl : g.length = gl at hE hb ⊢
  generalize (g ++ [Blk.cells (ordN 0) 77 false]).set gl (.cells (rdC o) 77 false) = G at hE hb ⊢
  cases ho : ord o with
  | false =>
    simp (maxSteps := 2000000) only [s48, ↓Za, ↓Zl, ↓Zr, ↓Ze, ↓Zo, ↓Zs, ↓Zg, ↓Zj, ↓Zf, ↓Zc, ↓Zb, ↓vdn, vup, Zn, Zm, Zi, Zh, Zk, List.map_cons, List.map_nil, cond_true, cond_false, aop, Zv, Zq, Zp, ev, sput, Zt, Zx, Zz, unK, Zd, Zw, Nat.reduceBEq, Nat.reduceAdd, Int.reduceBEq, Int.reduceBNe, Int.reduceLT, Zu, Zy, tup, tyf, ho]
    rw [antiV, ho]
    exact ⟨rfl, hE⟩
  | true =>
    have hln := Yz ho
    have hp := pow6 hln.2
    have hrd : rdC o = Vb o := if_pos hln
    rw [hrd] at hb
    simp (maxSteps := 2000000) only [s48, ↓Za, ↓Zl, ↓Zr, ↓Ze, ↓Zo, ↓Zs, ↓Zg, ↓Zj, ↓Zf, ↓Zc, ↓Zb, ↓vdn, vup, Zn, Zm, Zi, Zh, Zk, List.map_cons, List.map_nil, cond_true, cond_false, aop, Zv, Zq, Zp, ev, sput, Zt, Zx, Zz, unK, Zd, Zw, Nat.reduceBEq, Nat.reduceAdd, Int.reduceBEq, Int.reduceBNe, Int.reduceLT, Zu, Zy, tup, tyf, ho, loadO hb Xf hln.2, List.map_toArray, Yt, List.nil_append, List.append_nil, List.toList_toArray, List.cons_append]
    refine (sets_call ho (fun s => uni o s true) fun s h' hs hE' => ?_).mono ?_
    · exact anti1_call ho hs ((hE'.2 _ (Xd hb) id).trans hb)
    rintro r H ⟨hr, hEH, _⟩
    have hm0 : 0 ∈ setsL o fun s => uni o s true := mem_setsL.2 ⟨by omega, by simp [uni]⟩
    have hfl := filter_len (fun s => uni o s true) (2 ^ o.length)
    refine (minS_call hr.int (setsL_sorted _ _) (fun x hx => by have := (mem_setsL.1 hx).1; omega) (List.length_pos_of_mem hm0) (by rw [setsL]; omega)).mono ?_
    rintro _ _ ⟨rfl, m, rfl, hm⟩
    rw [minI_anti hp.2 hm, antiV, ho]
    simp (maxSteps := 2000000) only [s48, ↓Za, ↓Zl, ↓Zr, ↓Ze, ↓Zo, ↓Zs, ↓Zg, ↓Zj, ↓Zf, ↓Zc, ↓Zb, ↓vdn, vup, Zn, Zm, Zi, Zh, Zk, List.map_cons, List.map_nil, cond_true, cond_false, aop, Zv, Zq, Zp, ev, sput, Zt, Zx, Zz, unK, Zd, Zw, Nat.reduceBEq, Nat.reduceAdd, Int.reduceBEq, Int.reduceBNe, Int.reduceLT, Zu, Zy, tup, tyf]
    exact ⟨rfl, hE.trans hEH⟩
end Go.Proofs.Tryd.Am

namespace Go.Proofs.Tryd.Am
open Go.Am Ord
set_option maxRecDepth 100000
set_option maxHeartbeats 4000000

/-- A table of the fewest chains, the sets below s filled in. -/
structure TabI (o : List Int) (T : List Int) (s : Nat) : Prop where
  len : T.length = 2 ^ o.length
  get : ∀ t, t < s → T.getD t 0 = (fw o t : Nat)
theorem getD_setI {L : List Int} {s i : Nat} {x : Int} (hs : s < L.length) : (L.set s x).getD i 0 = if i = s then x else L.getD i 0 := by
  rw [List.getD, List.getElem?_set]
  by_cases h : s = i
  · subst h; simp [hs]
  · rw [if_neg h, if_neg (Ne.symm h)]; rfl
theorem TabI.put {o : List Int} {T : List Int} {s : Nat} (h : TabI o T s) (hs : s < 2 ^ o.length) (x : Int) : TabI o (T.set s x) s ∧ (T.set s x).getD s 0 = x :=
  ⟨⟨by rw [List.length_set, h.len], fun t ht => by rw [getD_setI (by rw [h.len]; exact hs), if_neg (by omega)]; exact h.get t ht⟩, by rw [getD_setI (by rw [h.len]; exact hs), if_pos rfl]⟩
theorem TabI.next {o : List Int} {T : List Int} {s : Nat} (h : TabI o T s) (hx : T.getD s 0 = (fw o s : Nat)) : TabI o T (s + 1) :=
  ⟨h.len, fun t ht => by
    by_cases he : t = s
    · rw [he, hx]
    · exact h.get t (by omega)⟩
theorem fw_le6 {o : List Int} (ho : ord o = true) {t : Nat} (ht : t < 2 ^ o.length) : fw o t ≤ 6 := by
  have := fw_le (o := o) ht
  have := (Yz ho).2; omega
/-- The best so far, over some first chains. -/
structure BstI (o : List Int) (s : Nat) (S : Nat → Prop) (x : Nat) : Prop where
  ge : fw o s ≤ x
  le : ∀ c, S c → okC o s c → x ≤ 1 + fw o (Xk s c)
theorem BstI.fin {o : List Int} {s x : Nat} {S : Nat → Prop} (h : BstI o s S x) (h0 : s ≠ 0) (hS : ∀ c, okC o s c → S c) : x = fw o s := by
  obtain ⟨c, hc, he⟩ := fw_first (o := o) h0
  have := h.le c (hS c hc) hc
  have := h.ge
  omega
theorem sub_leN {s c : Nat} (h : Xk c s = 0) : c ≤ s := by
  have : c = c &&& s := Nat.eq_of_testBit_eq fun k => by
    rw [Nat.testBit_and]
    cases hk : c.testBit k with
    | false => rfl
    | true => rw [Wj.1 h k hk]; rfl
  rw [this]; exact Nat.and_le_right
theorem andNot_eq {a b : Nat} (ha : a < 64) (hb : b < 64) : Wi .andNot .i64 ((a : Nat) : Int) ((b : Nat) : Int) = ((Xk a b : Nat) : Int) := Ws (by omega) (by omega)

theorem s62_callW [Tabs Tryd.prog] {args : List Value} {h : Ya} {Q : Value → Ya → Prop} (hsz : args.length ≤ 58) (hk : AWS Tryd.prog 58 s62 (Zu Tryd.prog [.tmp 2] Q) (Zp 0 args) h) : ACall Tryd.prog 62 args h Q :=
  Xu Tryd.func62 rfl (enters_of Tryd.func62 (by kernel_rfl) rfl) rfl rfl (by decide) s62_strip s62_ok hsz hk
theorem fewest_call [Tabs prog] {h : Ya} {v : Value} {o : List Int} (hv : IntSl h v o) (ho : ord o = true) : Wo prog 62 [v] h (Yb (fw o (2 ^ o.length - 1) : Nat)) := by
  refine ACall.forget (Low.int _ _) ?_
  have hl := Yz ho
  have hp := pow6 hl.2
  have hsh : shlV .i64 1 ((o.length : Nat) : Int) = ((2 ^ o.length : Nat) : Int) := by rw [shl1 (by omega), Wu]
  obtain ⟨N, hN⟩ : ∃ N, N = 2 ^ o.length := ⟨_, rfl⟩
  rw [← hN] at hsh hp
  have hmk : ∀ {K : Value → Ya → Prop}, makeK prog h 22 (Yb (N : Nat)) (Yb (N : Nat)) K = K (.slice (some ⟨h.length, 0, none⟩) N N) (h ++ [.ints (List.replicate N 0) 3 false]) := fun {K} => makeI Xm zero_3 info_3 (by omega) (by omega)
  have hnew : ∀ T : List Int, (h ++ [Blk.ints T 3 false])[h.length]? = some (.ints T 3 false) := fun T => Xc _ _
  have hset : ∀ T T' : List Int, (h ++ [Blk.ints T 3 false]).set h.length (.ints T' 3 false) = h ++ [Blk.ints T' 3 false] := fun T T' => by
    rw [List.set_append_right _ _ (Nat.le_refl _), Nat.sub_self]; rfl
  have hvT : ∀ T : List Int, IntSl (h ++ [Blk.ints T 3 false]) v o := fun T => Xg hv (Ext.app _ _ _)
  refine s62_callW (by simp) ?_
  simp only [s62]
  refine Yc fun N1 hN1 => ?_
  simp (maxSteps := 2000000) only [s62, ↓Za, ↓Zl, ↓Zr, ↓Ze, ↓Zo, ↓Zs, ↓Zg, ↓Zj, ↓Zf, ↓Zc, ↓Zb, ↓vdn, vup, Zn, Zm, Zi, Zh, Zk, List.map_cons, List.map_nil, cond_true, cond_false, aop, Zv, Zq, Zp, ev, sput, Zt, Zx, Zz, unK, Zd, Zw, Nat.reduceBEq, Nat.reduceAdd, Int.reduceBEq, Int.reduceBNe, Int.reduceLT, Zu, Zy, tup, tyf]
  refine hN1 [(0, v), (2, .int .i64 0)] _ _ ?_ (by simp (maxSteps := 2000000) only [↓Za, ↓Zl, ↓Zr, ↓Ze, ↓Zo, ↓Zs, ↓Zg, ↓Zj, ↓Zf, ↓Zc, ↓Zb, ↓vdn, vup, Zn, Zm, Zi, Zh, Zk, List.map_cons, List.map_nil, cond_true, cond_false, aop, Zv, Zq, Zp, ev, sput, Zt, Zx, Zz, unK, Zd, Zw, Nat.reduceBEq, Nat.reduceAdd, Int.reduceBEq, Int.reduceBNe, Int.reduceLT, Zu, Zy, tup, tyf])
  clear hN1
  try clear N1
  refine Yc fun N2 hN2 => ?_
  simp (maxSteps := 2000000) only [s62, ↓Za, ↓Zl, ↓Zr, ↓Ze, ↓Zo, ↓Zs, ↓Zg, ↓Zj, ↓Zf, ↓Zc, ↓Zb, ↓vdn, vup, Zn, Zm, Zi, Zh, Zk, List.map_cons, List.map_nil, cond_true, cond_false, aop, Zv, Zq, Zp, ev, sput, Zt, Zx, Zz, unK, Zd, Zw, Nat.reduceBEq, Nat.reduceAdd, Int.reduceBEq, Int.reduceBNe, Int.reduceLT, Zu, Zy, tup, tyf, hv.len, hsh, Int.natCast_nonneg, hmk]
  refine hN2 [(0, v), (2, .int .i64 0), (3, .slice (some ⟨h.length, 0, none⟩) N N)] _ _ ?_ (by simp (maxSteps := 2000000) only [↓Za, ↓Zl, ↓Zr, ↓Ze, ↓Zo, ↓Zs, ↓Zg, ↓Zj, ↓Zf, ↓Zc, ↓Zb, ↓vdn, vup, Zn, Zm, Zi, Zh, Zk, List.map_cons, List.map_nil, cond_true, cond_false, aop, Zv, Zq, Zp, ev, sput, Zt, Zx, Zz, unK, Zd, Zw, Nat.reduceBEq, Nat.reduceAdd, Int.reduceBEq, Int.reduceBNe, Int.reduceLT, Zu, Zy, tup, tyf])
  clear hN2
  try clear N2
  refine Yk fun Z hZ => ?_
  refine Yc fun N3 hN3 => ?_
  simp (maxSteps := 2000000) only [s62, ↓Za, ↓Zl, ↓Zr, ↓Ze, ↓Zo, ↓Zs, ↓Zg, ↓Zj, ↓Zf, ↓Zc, ↓Zb, ↓vdn, vup, Zn, Zm, Zi, Zh, Zk, List.map_cons, List.map_nil, cond_true, cond_false, aop, Zv, Zq, Zp, ev, sput, Zt, Zx, Zz, unK, Zd, Zw, Nat.reduceBEq, Nat.reduceAdd, Int.reduceBEq, Int.reduceBNe, Int.reduceLT, Zu, Zy, tup, tyf]
  refine hN3 [(0, v), (2, .int .i64 0), (3, .slice (some ⟨h.length, 0, none⟩) N N), (4, .int .i64 1)] _ _ ?_ (by simp (maxSteps := 2000000) only [↓Za, ↓Zl, ↓Zr, ↓Ze, ↓Zo, ↓Zs, ↓Zg, ↓Zj, ↓Zf, ↓Zc, ↓Zb, ↓vdn, vup, Zn, Zm, Zi, Zh, Zk, List.map_cons, List.map_nil, cond_true, cond_false, aop, Zv, Zq, Zp, ev, sput, Zt, Zx, Zz, unK, Zd, Zw, Nat.reduceBEq, Nat.reduceAdd, Int.reduceBEq, Int.reduceBNe, Int.reduceLT, Zu, Zy, tup, tyf])
  clear hN3
  try clear N3
  refine Yl ?_
  refine Yj fun Q hQ => ?_
  refine Xt (γ := Nat × List Int) (fun g => 1 ≤ g.1 ∧ g.1 ≤ N ∧ TabI o g.2 g.1)
    (fun g => ([(0, v), (2, .int .i64 0), (3, .slice (some ⟨h.length, 0, none⟩) N N), (4, Yb (g.1 : Nat))], h ++ [Blk.ints g.2 3 false])) (fun g => N - g.1) (1, List.replicate N 0) ⟨Nat.le_refl _, by omega, ⟨by simp [hN], fun t ht => by rw [show t = 0 by omega, fw_zero]; cases N <;> simp [List.getD]⟩⟩ (by simp (maxSteps := 2000000) only [↓Za, ↓Zl, ↓Zr, ↓Ze, ↓Zo, ↓Zs, ↓Zg, ↓Zj, ↓Zf, ↓Zc, ↓Zb, ↓vdn, vup, Zn, Zm, Zi, Zh, Zk, List.map_cons, List.map_nil, cond_true, cond_false, aop, Zv, Zq, Zp, ev, sput, Zt, Zx, Zz, unK, Zd, Zw, Nat.reduceBEq, Nat.reduceAdd, Int.reduceBEq, Int.reduceBNe, Int.reduceLT, Zu, Zy, tup, tyf, Int.natCast_one]) rfl ?_
  rintro ⟨s, T⟩ ⟨hs1, hs, hT⟩
  simp only at hs1 hs hT
  refine Yj fun Q2 hQ2 => ?_
  simp only [l62_1]
  have hTl : T.length = N := by rw [hT.len, hN]
  by_cases hin : (s : Int) < ((N : Nat) : Int)
  · have hs' : s < N := by omega
    refine Yk fun C hC => ?_
    refine Yc fun N4 hN4 => ?_
    simp (maxSteps := 2000000) only [s62, ↓Za, ↓Zl, ↓Zr, ↓Ze, ↓Zo, ↓Zs, ↓Zg, ↓Zj, ↓Zf, ↓Zc, ↓Zb, ↓vdn, vup, Zn, Zm, Zi, Zh, Zk, List.map_cons, List.map_nil, cond_true, cond_false, aop, Zv, Zq, Zp, ev, sput, Zt, Zx, Zz, unK, Zd, Zw, Nat.reduceBEq, Nat.reduceAdd, Int.reduceBEq, Int.reduceBNe, Int.reduceLT, Zu, Zy, tup, tyf, (hvT T).len, hsh, Int.natCast_nonneg, hin]
    refine hN4 [(0, v), (2, .int .i64 0), (3, .slice (some ⟨h.length, 0, none⟩) N N), (4, Yb (s : Nat)), (14, .bool true)] _ _ ?_ (by simp (maxSteps := 2000000) only [↓Za, ↓Zl, ↓Zr, ↓Ze, ↓Zo, ↓Zs, ↓Zg, ↓Zj, ↓Zf, ↓Zc, ↓Zb, ↓vdn, vup, Zn, Zm, Zi, Zh, Zk, List.map_cons, List.map_nil, cond_true, cond_false, aop, Zv, Zq, Zp, ev, sput, Zt, Zx, Zz, unK, Zd, Zw, Nat.reduceBEq, Nat.reduceAdd, Int.reduceBEq, Int.reduceBNe, Int.reduceLT, Zu, Zy, tup, tyf])
    clear hN4
    try clear N4
    refine Wb rfl ?_
    refine Yf ?_
    simp (maxSteps := 2000000) only [s62, ↓Za, ↓Zl, ↓Zr, ↓Ze, ↓Zo, ↓Zs, ↓Zg, ↓Zj, ↓Zf, ↓Zc, ↓Zb, ↓vdn, vup, Zn, Zm, Zi, Zh, Zk, List.map_cons, List.map_nil, cond_true, cond_false, aop, Zv, Zq, Zp, ev, sput, Zt, Zx, Zz, unK, Zd, Zw, Nat.reduceBEq, Nat.reduceAdd, Int.reduceBEq, Int.reduceBNe, Int.reduceLT, Zu, Zy, tup, tyf]
    refine hC [(0, v), (2, .int .i64 0), (3, .slice (some ⟨h.length, 0, none⟩) N N), (4, Yb (s : Nat))] _ _ ?_ (by simp (maxSteps := 2000000) only [↓Za, ↓Zl, ↓Zr, ↓Ze, ↓Zo, ↓Zs, ↓Zg, ↓Zj, ↓Zf, ↓Zc, ↓Zb, ↓vdn, vup, Zn, Zm, Zi, Zh, Zk, List.map_cons, List.map_nil, cond_true, cond_false, aop, Zv, Zq, Zp, ev, sput, Zt, Zx, Zz, unK, Zd, Zw, Nat.reduceBEq, Nat.reduceAdd, Int.reduceBEq, Int.reduceBNe, Int.reduceLT, Zu, Zy, tup, tyf])
    clear hC
    try clear C
    refine Yk fun B hB => ?_
    refine Yl ?_
    obtain ⟨hT1, hx1⟩ := hT.put (by rw [← hN]; exact hs') ((o.length : Nat) : Int)
    refine Yc fun N5 hN5 => ?_
    simp (maxSteps := 2000000) only [s62, ↓Za, ↓Zl, ↓Zr, ↓Ze, ↓Zo, ↓Zs, ↓Zg, ↓Zj, ↓Zf, ↓Zc, ↓Zb, ↓vdn, vup, Zn, Zm, Zi, Zh, Zk, List.map_cons, List.map_nil, cond_true, cond_false, aop, Zv, Zq, Zp, ev, sput, Zt, Zx, Zz, unK, Zd, Zw, Nat.reduceBEq, Nat.reduceAdd, Int.reduceBEq, Int.reduceBNe, Int.reduceLT, Zu, Zy, tup, tyf, (hvT T).len, idxS Xm Xh hs', storeBI (hnew T) Yp (show s < T.length by omega), hset]
    refine hN5 [(0, v), (2, .int .i64 0), (3, .slice (some ⟨h.length, 0, none⟩) N N), (4, Yb (s : Nat))] _ _ ?_ (by simp (maxSteps := 2000000) only [↓Za, ↓Zl, ↓Zr, ↓Ze, ↓Zo, ↓Zs, ↓Zg, ↓Zj, ↓Zf, ↓Zc, ↓Zb, ↓vdn, vup, Zn, Zm, Zi, Zh, Zk, List.map_cons, List.map_nil, cond_true, cond_false, aop, Zv, Zq, Zp, ev, sput, Zt, Zx, Zz, unK, Zd, Zw, Nat.reduceBEq, Nat.reduceAdd, Int.reduceBEq, Int.reduceBNe, Int.reduceLT, Zu, Zy, tup, tyf])
    clear hN5
    try clear N5
    generalize T.set s ((o.length : Nat) : Int) = T1 at hT1 hx1
    clear hT hTl
    refine Yc fun N6 hN6 => ?_
    simp (maxSteps := 2000000) only [s62, ↓Za, ↓Zl, ↓Zr, ↓Ze, ↓Zo, ↓Zs, ↓Zg, ↓Zj, ↓Zf, ↓Zc, ↓Zb, ↓vdn, vup, Zn, Zm, Zi, Zh, Zk, List.map_cons, List.map_nil, cond_true, cond_false, aop, Zv, Zq, Zp, ev, sput, Zt, Zx, Zz, unK, Zd, Zw, Nat.reduceBEq, Nat.reduceAdd, Int.reduceBEq, Int.reduceBNe, Int.reduceLT, Zu, Zy, tup, tyf]
    refine hN6 [(0, v), (2, .int .i64 0), (3, .slice (some ⟨h.length, 0, none⟩) N N), (4, Yb (s : Nat)), (5, .int .i64 1)] _ _ ?_ (by simp (maxSteps := 2000000) only [↓Za, ↓Zl, ↓Zr, ↓Ze, ↓Zo, ↓Zs, ↓Zg, ↓Zj, ↓Zf, ↓Zc, ↓Zb, ↓vdn, vup, Zn, Zm, Zi, Zh, Zk, List.map_cons, List.map_nil, cond_true, cond_false, aop, Zv, Zq, Zp, ev, sput, Zt, Zx, Zz, unK, Zd, Zw, Nat.reduceBEq, Nat.reduceAdd, Int.reduceBEq, Int.reduceBNe, Int.reduceLT, Zu, Zy, tup, tyf])
    clear hN6
    try clear N6
    refine Yl ?_
    refine Yj fun Qa hQa => ?_
    refine Xt (γ := Nat × List Int × Nat) (fun g => 1 ≤ g.1 ∧ g.1 ≤ s + 1 ∧ TabI o g.2.1 s ∧ g.2.1.getD s 0 = (g.2.2 : Nat) ∧ g.2.2 ≤ 6 ∧ BstI o s (fun c => c < g.1) g.2.2)
      (fun g => ([(0, v), (2, .int .i64 0), (3, .slice (some ⟨h.length, 0, none⟩) N N), (4, Yb (s : Nat)), (5, Yb (g.1 : Nat))], h ++ [Blk.ints g.2.1 3 false])) (fun g => s + 1 - g.1) (1, T1, o.length) ⟨Nat.le_refl _, by omega, hT1, hx1, hl.2, ⟨fw_le (by rw [← hN]; exact hs'), fun c hc hk => absurd hk.1 (by omega)⟩⟩ (by simp (maxSteps := 2000000) only [↓Za, ↓Zl, ↓Zr, ↓Ze, ↓Zo, ↓Zs, ↓Zg, ↓Zj, ↓Zf, ↓Zc, ↓Zb, ↓vdn, vup, Zn, Zm, Zi, Zh, Zk, List.map_cons, List.map_nil, cond_true, cond_false, aop, Zv, Zq, Zp, ev, sput, Zt, Zx, Zz, unK, Zd, Zw, Nat.reduceBEq, Nat.reduceAdd, Int.reduceBEq, Int.reduceBNe, Int.reduceLT, Zu, Zy, tup, tyf, Int.natCast_one]) rfl ?_
    rintro ⟨c, T, x⟩ ⟨hc1, hc, hT, hx, hx6, hb⟩
    simp only at hc1 hc hT hx hx6 hb
    refine Yj fun Qb hQb => ?_
    simp only [l62_0]
    have hTl : T.length = N := by rw [hT.len, hN]
    by_cases hcin : (c : Int) ≤ s
    · have hc' : c ≤ s := by omega
      have hcN : c < 2 ^ o.length := by omega
      refine Yk fun D hD => ?_
      refine Yc fun N7 hN7 => ?_
      simp (maxSteps := 2000000) only [s62, ↓Za, ↓Zl, ↓Zr, ↓Ze, ↓Zo, ↓Zs, ↓Zg, ↓Zj, ↓Zf, ↓Zc, ↓Zb, ↓vdn, vup, Zn, Zm, Zi, Zh, Zk, List.map_cons, List.map_nil, cond_true, cond_false, aop, Zv, Zq, Zp, ev, sput, Zt, Zx, Zz, unK, Zd, Zw, Nat.reduceBEq, Nat.reduceAdd, Int.reduceBEq, Int.reduceBNe, Int.reduceLT, Zu, Zy, tup, tyf, hcin]
      refine hN7 [(0, v), (2, .int .i64 0), (3, .slice (some ⟨h.length, 0, none⟩) N N), (4, Yb (s : Nat)), (5, Yb (c : Nat)), (24, .bool true)] _ _ ?_ (by simp (maxSteps := 2000000) only [↓Za, ↓Zl, ↓Zr, ↓Ze, ↓Zo, ↓Zs, ↓Zg, ↓Zj, ↓Zf, ↓Zc, ↓Zb, ↓vdn, vup, Zn, Zm, Zi, Zh, Zk, List.map_cons, List.map_nil, cond_true, cond_false, aop, Zv, Zq, Zp, ev, sput, Zt, Zx, Zz, unK, Zd, Zw, Nat.reduceBEq, Nat.reduceAdd, Int.reduceBEq, Int.reduceBNe, Int.reduceLT, Zu, Zy, tup, tyf])
      clear hN7
      try clear N7
      refine Wb rfl ?_
      refine Yf ?_
      simp (maxSteps := 2000000) only [s62, ↓Za, ↓Zl, ↓Zr, ↓Ze, ↓Zo, ↓Zs, ↓Zg, ↓Zj, ↓Zf, ↓Zc, ↓Zb, ↓vdn, vup, Zn, Zm, Zi, Zh, Zk, List.map_cons, List.map_nil, cond_true, cond_false, aop, Zv, Zq, Zp, ev, sput, Zt, Zx, Zz, unK, Zd, Zw, Nat.reduceBEq, Nat.reduceAdd, Int.reduceBEq, Int.reduceBNe, Int.reduceLT, Zu, Zy, tup, tyf]
      refine hD [(0, v), (2, .int .i64 0), (3, .slice (some ⟨h.length, 0, none⟩) N N), (4, Yb (s : Nat)), (5, Yb (c : Nat))] _ _ ?_ (by simp (maxSteps := 2000000) only [↓Za, ↓Zl, ↓Zr, ↓Ze, ↓Zo, ↓Zs, ↓Zg, ↓Zj, ↓Zf, ↓Zc, ↓Zb, ↓vdn, vup, Zn, Zm, Zi, Zh, Zk, List.map_cons, List.map_nil, cond_true, cond_false, aop, Zv, Zq, Zp, ev, sput, Zt, Zx, Zz, unK, Zd, Zw, Nat.reduceBEq, Nat.reduceAdd, Int.reduceBEq, Int.reduceBNe, Int.reduceLT, Zu, Zy, tup, tyf])
      clear hD
      try clear D
      refine Yk fun F hF => ?_
      refine Yl ?_
      have goOn : ∀ (T' : List Int) (x' : Nat), TabI o T' s → T'.getD s 0 = (x' : Nat) → x' ≤ 6 → BstI o s (fun d => d < c + 1) x' → ∀ e, ELe e [(0, v), (2, .int .i64 0), (3, .slice (some ⟨h.length, 0, none⟩) N N), (4, Yb (s : Nat)), (5, Yb (c : Nat))] → F e (h ++ [Blk.ints T' 3 false]) := by
        intro T' x' g1 g2 g3 g4 e he
        refine hF _ _ _ ?_ he
        refine Yf ?_
        simp (maxSteps := 2000000) only [s62, ↓Za, ↓Zl, ↓Zr, ↓Ze, ↓Zo, ↓Zs, ↓Zg, ↓Zj, ↓Zf, ↓Zc, ↓Zb, ↓vdn, vup, Zn, Zm, Zi, Zh, Zk, List.map_cons, List.map_nil, cond_true, cond_false, aop, Zv, Zq, Zp, ev, sput, Zt, Zx, Zz, unK, Zd, Zw, Nat.reduceBEq, Nat.reduceAdd, Int.reduceBEq, Int.reduceBNe, Int.reduceLT, Zu, Zy, tup, tyf, add1 (show c < 9223372036854775807 by omega)]
        exact hQb _ _ _ ⟨(c + 1, T', x'), ⟨by simp only; omega, by simp only; omega, g1, g2, g3, g4⟩, by simp only; omega, by simp (maxSteps := 2000000) only [↓Za, ↓Zl, ↓Zr, ↓Ze, ↓Zo, ↓Zs, ↓Zg, ↓Zj, ↓Zf, ↓Zc, ↓Zb, ↓vdn, vup, Zn, Zm, Zi, Zh, Zk, List.map_cons, List.map_nil, cond_true, cond_false, aop, Zv, Zq, Zp, ev, sput, Zt, Zx, Zz, unK, Zd, Zw, Nat.reduceBEq, Nat.reduceAdd, Int.reduceBEq, Int.reduceBNe, Int.reduceLT, Zu, Zy, tup, tyf], rfl⟩
      have noC : ¬ okC o s c → BstI o s (fun d => d < c + 1) x := fun hno => ⟨hb.ge, fun d hd hk => by
        by_cases he : d = c
        · exact absurd (he ▸ hk) hno
        · exact hb.le d (by omega) hk⟩
      have han := andNot_eq (a := c) (b := s) (by omega) (by omega)
      refine Yc fun N8 hN8 => ?_
      simp only [q62_9]
      by_cases hz : Xk c s = 0
      · have hz' : (((Xk c s : Nat) : Int) == 0) = true := by rw [hz]; rfl
        simp (maxSteps := 2000000) only [s62, ↓Za, ↓Zl, ↓Zr, ↓Ze, ↓Zo, ↓Zs, ↓Zg, ↓Zj, ↓Zf, ↓Zc, ↓Zb, ↓vdn, vup, Zn, Zm, Zi, Zh, Zk, List.map_cons, List.map_nil, cond_true, cond_false, aop, Zv, Zq, Zp, ev, sput, Zt, Zx, Zz, unK, Zd, Zw, Nat.reduceBEq, Nat.reduceAdd, Int.reduceBEq, Int.reduceBNe, Int.reduceLT, Zu, Zy, tup, tyf, Yt, List.nil_append, List.append_nil, List.toList_toArray, List.cons_append, han, hz']
        refine (rchain_call (hvT T) ho hcN).mono ?_
        rintro _ _ ⟨rfl, rfl⟩
        cases hu : uni o c false with
        | false =>
          refine hN8 [(0, v), (2, .int .i64 0), (3, .slice (some ⟨h.length, 0, none⟩) N N), (4, Yb (s : Nat)), (5, Yb (c : Nat)), (35, .bool false)] _ _ ?_ (by simp (maxSteps := 2000000) only [↓Za, ↓Zl, ↓Zr, ↓Ze, ↓Zo, ↓Zs, ↓Zg, ↓Zj, ↓Zf, ↓Zc, ↓Zb, ↓vdn, vup, Zn, Zm, Zi, Zh, Zk, List.map_cons, List.map_nil, cond_true, cond_false, aop, Zv, Zq, Zp, ev, sput, Zt, Zx, Zz, unK, Zd, Zw, Nat.reduceBEq, Nat.reduceAdd, Int.reduceBEq, Int.reduceBNe, Int.reduceLT, Zu, Zy, tup, tyf])
          clear hN8
          try clear N8
          refine Ys rfl ?_
          refine Yf ?_
          simp (maxSteps := 2000000) only [s62, ↓Za, ↓Zl, ↓Zr, ↓Ze, ↓Zo, ↓Zs, ↓Zg, ↓Zj, ↓Zf, ↓Zc, ↓Zb, ↓vdn, vup, Zn, Zm, Zi, Zh, Zk, List.map_cons, List.map_nil, cond_true, cond_false, aop, Zv, Zq, Zp, ev, sput, Zt, Zx, Zz, unK, Zd, Zw, Nat.reduceBEq, Nat.reduceAdd, Int.reduceBEq, Int.reduceBNe, Int.reduceLT, Zu, Zy, tup, tyf]
          exact goOn T x hT hx hx6 (noC fun hk => by rw [hk.2.2] at hu; cases hu) _ (by simp (maxSteps := 2000000) only [↓Za, ↓Zl, ↓Zr, ↓Ze, ↓Zo, ↓Zs, ↓Zg, ↓Zj, ↓Zf, ↓Zc, ↓Zb, ↓vdn, vup, Zn, Zm, Zi, Zh, Zk, List.map_cons, List.map_nil, cond_true, cond_false, aop, Zv, Zq, Zp, ev, sput, Zt, Zx, Zz, unK, Zd, Zw, Nat.reduceBEq, Nat.reduceAdd, Int.reduceBEq, Int.reduceBNe, Int.reduceLT, Zu, Zy, tup, tyf])
        | true =>
          have hok : okC o s c := ⟨by omega, hz, hu⟩
          obtain ⟨y, hy⟩ : ∃ y, y = fw o (Xk s c) := ⟨_, rfl⟩
          have hlt := less_lt hok.1 hok.2.1
          have hgy : T.getD (Xk s c) 0 = (y : Nat) := by rw [hT.get _ hlt, hy]
          have hy6 : y ≤ 6 := by rw [hy]; exact fw_le6 ho (by omega)
          have han2 := andNot_eq (a := s) (b := c) (by omega) (by omega)
          have hmin : (if ((1 + y : Nat) : Int) < ((x : Nat) : Int) then ((1 + y : Nat) : Int) else ((x : Nat) : Int)) = ((min x (1 + y) : Nat) : Int) := by split <;> omega
          have hadd : addV .i64 1 ((y : Nat) : Int) = ((1 + y : Nat) : Int) := by
            rw [addV_id (by omega) (by omega)]; omega
          obtain ⟨hT2, hx2⟩ := hT.put (by omega) ((min x (1 + y) : Nat) : Int)
          refine hN8 [(0, v), (2, .int .i64 0), (3, .slice (some ⟨h.length, 0, none⟩) N N), (4, Yb (s : Nat)), (5, Yb (c : Nat)), (35, .bool true)] _ _ ?_ (by simp (maxSteps := 2000000) only [↓Za, ↓Zl, ↓Zr, ↓Ze, ↓Zo, ↓Zs, ↓Zg, ↓Zj, ↓Zf, ↓Zc, ↓Zb, ↓vdn, vup, Zn, Zm, Zi, Zh, Zk, List.map_cons, List.map_nil, cond_true, cond_false, aop, Zv, Zq, Zp, ev, sput, Zt, Zx, Zz, unK, Zd, Zw, Nat.reduceBEq, Nat.reduceAdd, Int.reduceBEq, Int.reduceBNe, Int.reduceLT, Zu, Zy, tup, tyf])
          clear hN8
          try clear N8
          refine Wb rfl ?_
          refine Yf ?_
          simp only [q62_10]
          refine Xy [] (by kernel_rfl) (by kernel_rfl) (by kernel_rfl) (by kernel_rfl) ?_
          simp (maxSteps := 2000000) only [s62, ↓Za, ↓Zl, ↓Zr, ↓Ze, ↓Zo, ↓Zs, ↓Zg, ↓Zj, ↓Zf, ↓Zc, ↓Zb, ↓vdn, vup, Zn, Zm, Zi, Zh, Zk, List.map_cons, List.map_nil, cond_true, cond_false, aop, Zv, Zq, Zp, ev, sput, Zt, Zx, Zz, unK, Zd, Zw, Nat.reduceBEq, Nat.reduceAdd, Int.reduceBEq, Int.reduceBNe, Int.reduceLT, Zu, Zy, tup, tyf, idxS Xm Xh hs', loadX (hnew T) Yp (show s < T.length by omega), hx, han2, idxS Xm Xh (show Xk s c < N by omega), loadX (hnew T) Yp (show Xk s c < T.length by omega), hgy, hadd, mmK, Bool.false_eq_true, if_false, gt_iff_lt, hmin, storeBI (hnew T) Yp (show s < T.length by omega), hset]
          refine goOn _ (min x (1 + y)) hT2 hx2 (by omega) ⟨?_, fun d hd hk => ?_⟩ _ (by simp (maxSteps := 2000000) only [↓Za, ↓Zl, ↓Zr, ↓Ze, ↓Zo, ↓Zs, ↓Zg, ↓Zj, ↓Zf, ↓Zc, ↓Zb, ↓vdn, vup, Zn, Zm, Zi, Zh, Zk, List.map_cons, List.map_nil, cond_true, cond_false, aop, Zv, Zq, Zp, ev, sput, Zt, Zx, Zz, unK, Zd, Zw, Nat.reduceBEq, Nat.reduceAdd, Int.reduceBEq, Int.reduceBNe, Int.reduceLT, Zu, Zy, tup, tyf])
          · have := fw_le_one hok; have := hb.ge; omega
          · by_cases he : d = c
            · rw [he, ← hy]; omega
            · have := hb.le d (by omega) hk; omega
      · have hz' : (((Xk c s : Nat) : Int) == 0) = false := by
          rw [beq_eq_false_iff_ne]; omega
        simp (maxSteps := 2000000) only [s62, ↓Za, ↓Zl, ↓Zr, ↓Ze, ↓Zo, ↓Zs, ↓Zg, ↓Zj, ↓Zf, ↓Zc, ↓Zb, ↓vdn, vup, Zn, Zm, Zi, Zh, Zk, List.map_cons, List.map_nil, cond_true, cond_false, aop, Zv, Zq, Zp, ev, sput, Zt, Zx, Zz, unK, Zd, Zw, Nat.reduceBEq, Nat.reduceAdd, Int.reduceBEq, Int.reduceBNe, Int.reduceLT, Zu, Zy, tup, tyf, han, hz']
        refine hN8 [(0, v), (2, .int .i64 0), (3, .slice (some ⟨h.length, 0, none⟩) N N), (4, Yb (s : Nat)), (5, Yb (c : Nat)), (35, .bool false)] _ _ ?_ (by simp (maxSteps := 2000000) only [↓Za, ↓Zl, ↓Zr, ↓Ze, ↓Zo, ↓Zs, ↓Zg, ↓Zj, ↓Zf, ↓Zc, ↓Zb, ↓vdn, vup, Zn, Zm, Zi, Zh, Zk, List.map_cons, List.map_nil, cond_true, cond_false, aop, Zv, Zq, Zp, ev, sput, Zt, Zx, Zz, unK, Zd, Zw, Nat.reduceBEq, Nat.reduceAdd, Int.reduceBEq, Int.reduceBNe, Int.reduceLT, Zu, Zy, tup, tyf])
        clear hN8
        try clear N8
        refine Ys rfl ?_
        refine Yf ?_
        simp (maxSteps := 2000000) only [s62, ↓Za, ↓Zl, ↓Zr, ↓Ze, ↓Zo, ↓Zs, ↓Zg, ↓Zj, ↓Zf, ↓Zc, ↓Zb, ↓vdn, vup, Zn, Zm, Zi, Zh, Zk, List.map_cons, List.map_nil, cond_true, cond_false, aop, Zv, Zq, Zp, ev, sput, Zt, Zx, Zz, unK, Zd, Zw, Nat.reduceBEq, Nat.reduceAdd, Int.reduceBEq, Int.reduceBNe, Int.reduceLT, Zu, Zy, tup, tyf]
        exact goOn T x hT hx hx6 (noC fun hk => hz hk.2.1) _ (by simp (maxSteps := 2000000) only [↓Za, ↓Zl, ↓Zr, ↓Ze, ↓Zo, ↓Zs, ↓Zg, ↓Zj, ↓Zf, ↓Zc, ↓Zb, ↓vdn, vup, Zn, Zm, Zi, Zh, Zk, List.map_cons, List.map_nil, cond_true, cond_false, aop, Zv, Zq, Zp, ev, sput, Zt, Zx, Zz, unK, Zd, Zw, Nat.reduceBEq, Nat.reduceAdd, Int.reduceBEq, Int.reduceBNe, Int.reduceLT, Zu, Zy, tup, tyf])
    · obtain rfl : c = s + 1 := by omega
      have hxf := hb.fin (by omega) fun d hd => by have := sub_leN hd.2.1; omega
      subst hxf
      refine Yk fun D hD => ?_
      refine Yc fun N9 hN9 => ?_
      simp (maxSteps := 2000000) only [s62, ↓Za, ↓Zl, ↓Zr, ↓Ze, ↓Zo, ↓Zs, ↓Zg, ↓Zj, ↓Zf, ↓Zc, ↓Zb, ↓vdn, vup, Zn, Zm, Zi, Zh, Zk, List.map_cons, List.map_nil, cond_true, cond_false, aop, Zv, Zq, Zp, ev, sput, Zt, Zx, Zz, unK, Zd, Zw, Nat.reduceBEq, Nat.reduceAdd, Int.reduceBEq, Int.reduceBNe, Int.reduceLT, Zu, Zy, tup, tyf, hcin]
      refine hN9 [(0, v), (2, .int .i64 0), (3, .slice (some ⟨h.length, 0, none⟩) N N), (4, Yb (s : Nat)), (5, Yb (s + 1 : Nat)), (24, .bool false)] _ _ ?_ (by simp (maxSteps := 2000000) only [↓Za, ↓Zl, ↓Zr, ↓Ze, ↓Zo, ↓Zs, ↓Zg, ↓Zj, ↓Zf, ↓Zc, ↓Zb, ↓vdn, vup, Zn, Zm, Zi, Zh, Zk, List.map_cons, List.map_nil, cond_true, cond_false, aop, Zv, Zq, Zp, ev, sput, Zt, Zx, Zz, unK, Zd, Zw, Nat.reduceBEq, Nat.reduceAdd, Int.reduceBEq, Int.reduceBNe, Int.reduceLT, Zu, Zy, tup, tyf])
      clear hN9
      try clear N9
      refine Ys rfl ?_
      refine Yf ?_
      simp (maxSteps := 2000000) only [s62, ↓Za, ↓Zl, ↓Zr, ↓Ze, ↓Zo, ↓Zs, ↓Zg, ↓Zj, ↓Zf, ↓Zc, ↓Zb, ↓vdn, vup, Zn, Zm, Zi, Zh, Zk, List.map_cons, List.map_nil, cond_true, cond_false, aop, Zv, Zq, Zp, ev, sput, Zt, Zx, Zz, unK, Zd, Zw, Nat.reduceBEq, Nat.reduceAdd, Int.reduceBEq, Int.reduceBNe, Int.reduceLT, Zu, Zy, tup, tyf]
      refine hQb _ _ _ (hQa _ _ _ ?_)
      simp (maxSteps := 2000000) only [s62, ↓Za, ↓Zl, ↓Zr, ↓Ze, ↓Zo, ↓Zs, ↓Zg, ↓Zj, ↓Zf, ↓Zc, ↓Zb, ↓vdn, vup, Zn, Zm, Zi, Zh, Zk, List.map_cons, List.map_nil, cond_true, cond_false, aop, Zv, Zq, Zp, ev, sput, Zt, Zx, Zz, unK, Zd, Zw, Nat.reduceBEq, Nat.reduceAdd, Int.reduceBEq, Int.reduceBNe, Int.reduceLT, Zu, Zy, tup, tyf, if_true]
      refine hB [(0, v), (2, .int .i64 0), (3, .slice (some ⟨h.length, 0, none⟩) N N), (4, Yb (s : Nat)), (24, .bool false)] _ _ ?_ (by simp (maxSteps := 2000000) only [↓Za, ↓Zl, ↓Zr, ↓Ze, ↓Zo, ↓Zs, ↓Zg, ↓Zj, ↓Zf, ↓Zc, ↓Zb, ↓vdn, vup, Zn, Zm, Zi, Zh, Zk, List.map_cons, List.map_nil, cond_true, cond_false, aop, Zv, Zq, Zp, ev, sput, Zt, Zx, Zz, unK, Zd, Zw, Nat.reduceBEq, Nat.reduceAdd, Int.reduceBEq, Int.reduceBNe, Int.reduceLT, Zu, Zy, tup, tyf])
      clear hB
      try clear B
      refine Yf ?_
      simp (maxSteps := 2000000) only [s62, ↓Za, ↓Zl, ↓Zr, ↓Ze, ↓Zo, ↓Zs, ↓Zg, ↓Zj, ↓Zf, ↓Zc, ↓Zb, ↓vdn, vup, Zn, Zm, Zi, Zh, Zk, List.map_cons, List.map_nil, cond_true, cond_false, aop, Zv, Zq, Zp, ev, sput, Zt, Zx, Zz, unK, Zd, Zw, Nat.reduceBEq, Nat.reduceAdd, Int.reduceBEq, Int.reduceBNe, Int.reduceLT, Zu, Zy, tup, tyf, add1 (show s < 9223372036854775807 by omega)]
      exact hQ2 _ _ _ ⟨(s + 1, T), ⟨by simp only; omega, hs', hT.next hx⟩, by simp only; omega, by simp (maxSteps := 2000000) only [↓Za, ↓Zl, ↓Zr, ↓Ze, ↓Zo, ↓Zs, ↓Zg, ↓Zj, ↓Zf, ↓Zc, ↓Zb, ↓vdn, vup, Zn, Zm, Zi, Zh, Zk, List.map_cons, List.map_nil, cond_true, cond_false, aop, Zv, Zq, Zp, ev, sput, Zt, Zx, Zz, unK, Zd, Zw, Nat.reduceBEq, Nat.reduceAdd, Int.reduceBEq, Int.reduceBNe, Int.reduceLT, Zu, Zy, tup, tyf], rfl⟩
  · obtain rfl : N = s := by omega
    refine Yk fun C hC => ?_
    refine Yc fun N10 hN10 => ?_
    simp (maxSteps := 2000000) only [s62, ↓Za, ↓Zl, ↓Zr, ↓Ze, ↓Zo, ↓Zs, ↓Zg, ↓Zj, ↓Zf, ↓Zc, ↓Zb, ↓vdn, vup, Zn, Zm, Zi, Zh, Zk, List.map_cons, List.map_nil, cond_true, cond_false, aop, Zv, Zq, Zp, ev, sput, Zt, Zx, Zz, unK, Zd, Zw, Nat.reduceBEq, Nat.reduceAdd, Int.reduceBEq, Int.reduceBNe, Int.reduceLT, Zu, Zy, tup, tyf, (hvT T).len, hsh, Int.natCast_nonneg, hin]
    refine hN10 [(0, v), (2, .int .i64 0), (3, .slice (some ⟨h.length, 0, none⟩) N N), (4, Yb (N : Nat)), (14, .bool false)] _ _ ?_ (by simp (maxSteps := 2000000) only [↓Za, ↓Zl, ↓Zr, ↓Ze, ↓Zo, ↓Zs, ↓Zg, ↓Zj, ↓Zf, ↓Zc, ↓Zb, ↓vdn, vup, Zn, Zm, Zi, Zh, Zk, List.map_cons, List.map_nil, cond_true, cond_false, aop, Zv, Zq, Zp, ev, sput, Zt, Zx, Zz, unK, Zd, Zw, Nat.reduceBEq, Nat.reduceAdd, Int.reduceBEq, Int.reduceBNe, Int.reduceLT, Zu, Zy, tup, tyf])
    clear hN10
    try clear N10
    refine Ys rfl ?_
    refine Yf ?_
    simp (maxSteps := 2000000) only [s62, ↓Za, ↓Zl, ↓Zr, ↓Ze, ↓Zo, ↓Zs, ↓Zg, ↓Zj, ↓Zf, ↓Zc, ↓Zb, ↓vdn, vup, Zn, Zm, Zi, Zh, Zk, List.map_cons, List.map_nil, cond_true, cond_false, aop, Zv, Zq, Zp, ev, sput, Zt, Zx, Zz, unK, Zd, Zw, Nat.reduceBEq, Nat.reduceAdd, Int.reduceBEq, Int.reduceBNe, Int.reduceLT, Zu, Zy, tup, tyf]
    refine hQ2 _ _ _ (hQ _ _ _ ?_)
    simp (maxSteps := 2000000) only [s62, ↓Za, ↓Zl, ↓Zr, ↓Ze, ↓Zo, ↓Zs, ↓Zg, ↓Zj, ↓Zf, ↓Zc, ↓Zb, ↓vdn, vup, Zn, Zm, Zi, Zh, Zk, List.map_cons, List.map_nil, cond_true, cond_false, aop, Zv, Zq, Zp, ev, sput, Zt, Zx, Zz, unK, Zd, Zw, Nat.reduceBEq, Nat.reduceAdd, Int.reduceBEq, Int.reduceBNe, Int.reduceLT, Zu, Zy, tup, tyf, if_true]
    refine hZ [(0, v), (2, .int .i64 0), (3, .slice (some ⟨h.length, 0, none⟩) N N), (14, .bool false)] _ _ ?_ (by simp (maxSteps := 2000000) only [↓Za, ↓Zl, ↓Zr, ↓Ze, ↓Zo, ↓Zs, ↓Zg, ↓Zj, ↓Zf, ↓Zc, ↓Zb, ↓vdn, vup, Zn, Zm, Zi, Zh, Zk, List.map_cons, List.map_nil, cond_true, cond_false, aop, Zv, Zq, Zp, ev, sput, Zt, Zx, Zz, unK, Zd, Zw, Nat.reduceBEq, Nat.reduceAdd, Int.reduceBEq, Int.reduceBNe, Int.reduceLT, Zu, Zy, tup, tyf])
    clear hZ
    try clear Z
    have hsub : subV .i64 ((N : Nat) : Int) 1 = ((N - 1 : Nat) : Int) := by rw [subV_id (by omega) (by omega)]; omega
    have hg := hT.get (N - 1) (by omega)
    refine Yf ?_
    simp (maxSteps := 2000000) only [s62, ↓Za, ↓Zl, ↓Zr, ↓Ze, ↓Zo, ↓Zs, ↓Zg, ↓Zj, ↓Zf, ↓Zc, ↓Zb, ↓vdn, vup, Zn, Zm, Zi, Zh, Zk, List.map_cons, List.map_nil, cond_true, cond_false, aop, Zv, Zq, Zp, ev, sput, Zt, Zx, Zz, unK, Zd, Zw, Nat.reduceBEq, Nat.reduceAdd, Int.reduceBEq, Int.reduceBNe, Int.reduceLT, Zu, Zy, tup, tyf, (hvT T).len, hsh, hsub, Int.natCast_nonneg, idxS Xm Xh (show N - 1 < N by omega), loadX (hnew T) Yp (show N - 1 < T.length by omega), hg]
    exact ⟨by rw [hN], Ext.app _ _ _⟩
end Go.Proofs.Tryd.Am

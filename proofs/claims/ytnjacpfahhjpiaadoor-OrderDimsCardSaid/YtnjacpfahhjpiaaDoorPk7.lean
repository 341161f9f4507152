/-
  order: Ideals, Anti.
  order: the fewest chains, by the reference and by the program.
  order: Chains.
  order: Turn.
  Plain theory: lines that show an order, by keys; their number is at most that of the chains, and at most three for six elements.
  Plain theory: the first of the shortest realizers; a search with repetitions finds the same.
  Printed by gen.py: the code of some functions, without what no step looks at; held against the program's own by the kernel.
-/
import Derived.Test.YtnjacpfahhjpiaaDoorPk6
import Derived.Test.YtnjacpfahhjpiaaDoorPk3
import Derived.Test.YtnjacpfahhjpiaaDoorProg
import Derived.KernelRfl
import Derived.Shelf.Abstract
set_option linter.all false
namespace Go.Proofs.Tryd.Am
open Go.Am Ord
set_option maxRecDepth 100000
set_option maxHeartbeats 2000000

theorem filter_len (p : Nat → Bool) (s : Nat) : ((List.range s).filter p).length ≤ s := by
  have := List.length_filter_le p (List.range s)
  rwa [List.length_range] at this
theorem all_add {n : Nat} (h : n ≤ 6) : addV .i64 ((2 ^ n - 1 : Nat) : Int) 1 = ((2 ^ n : Nat) : Int) := by
  have hp := pow6 h
  rw [add1 (by omega)]; omega
theorem s83_callW [Tabs Tryd.prog] {args : List Value} {h : Zy} {Q : Value → Zy → Prop} (hsz : args.length ≤ 22) (hk : AWS Tryd.prog 22 s83 (Zu Tryd.prog [.tmp 4] Q) (Zp 0 args) h) : ACall Tryd.prog 83 args h Q :=
  acall_w Tryd.func83 rfl (enters_of Tryd.func83 (by kernel_rfl) rfl) rfl rfl (by decide) s83_strip s83_ok hsz hk
theorem sets_call [BitTab prog 1] {h : Zy} {o : List Int} {fn : Nat} {cap : Array Value} (ho : ord o = true) (p : Nat → Bool) (hf : ∀ s h', s < 2 ^ o.length → Ext (fun _ => False) h h' → Vn prog fn (([] : List Value) ++ [Zx (s : Nat)] ++ cap.toList) h' (.bool (p s))) :
    ACall prog 83 [ordV o, .func (.func fn) #[] cap] h fun r h' => OwnSl 3 h' r (iL (setsL o p)) ∧ Ext (fun _ => False) h h' ∧ ∀ b, Yd r = some b → h.length ≤ b := by
  have hl := Xi ho
  have hp := pow6 hl.2
  obtain ⟨H0, hH0⟩ : ∃ H, H = h ++ [Blk.cells (Wr o) 77 false] := ⟨_, rfl⟩
  have hE0 : Ext (fun _ => False) h H0 := by rw [hH0]; exact Ext.app _ _ _
  have b2 : H0[h.length]? = some (.cells (Wr o) 77 false) := by rw [hH0]; exact Yp _ _
  refine s83_callW (by simp) ?_
  simp only [s83]
  refine Yc fun N1 hN1 => ?_
  simp (maxSteps := 2000000) only [s83, ↓Za, ↓Zn, ↓Zr, ↓Ze, ↓Zj, ↓Zs, ↓Zg, ↓Zh, ↓Zf, ↓Zb, ↓Zc, ↓vdn, vup, Zm, Zk, Zl, Zi, Zo, List.map_cons, List.map_nil, cond_true, cond_false, aop, Zv, Zq, Zp, ev, sput, Zt, Zz, Yb, unK, Zd, Zw, Nat.reduceBEq, Nat.reduceAdd, Int.reduceBEq, Int.reduceBNe, Int.reduceLT, Zu, Ya, tup, tyf, boxO esz_77, Xc]
  rw [← hH0]
  refine hN1 [(1, .func (.func fn) #[] cap), (2, .pointer (some ⟨h.length, 0, none⟩)), (4, .slice none 0 0)] _ _ ?_ (by simp (maxSteps := 2000000) only [↓Za, ↓Zn, ↓Zr, ↓Ze, ↓Zj, ↓Zs, ↓Zg, ↓Zh, ↓Zf, ↓Zb, ↓Zc, ↓vdn, vup, Zm, Zk, Zl, Zi, Zo, List.map_cons, List.map_nil, cond_true, cond_false, aop, Zv, Zq, Zp, ev, sput, Zt, Zz, Yb, unK, Zd, Zw, Nat.reduceBEq, Nat.reduceAdd, Int.reduceBEq, Int.reduceBNe, Int.reduceLT, Zu, Ya, tup, tyf])
  clear hN1
  try clear N1
  refine Yc fun N2 hN2 => ?_
  simp (maxSteps := 2000000) only [s83, ↓Za, ↓Zn, ↓Zr, ↓Ze, ↓Zj, ↓Zs, ↓Zg, ↓Zh, ↓Zf, ↓Zb, ↓Zc, ↓vdn, vup, Zm, Zk, Zl, Zi, Zo, List.map_cons, List.map_nil, cond_true, cond_false, aop, Zv, Zq, Zp, ev, sput, Zt, Zz, Yb, unK, Zd, Zw, Nat.reduceBEq, Nat.reduceAdd, Int.reduceBEq, Int.reduceBNe, Int.reduceLT, Zu, Ya, tup, tyf]
  refine hN2 [(1, .func (.func fn) #[] cap), (2, .pointer (some ⟨h.length, 0, none⟩)), (4, .slice none 0 0), (5, .slice none 0 0)] _ _ ?_ (by simp (maxSteps := 2000000) only [↓Za, ↓Zn, ↓Zr, ↓Ze, ↓Zj, ↓Zs, ↓Zg, ↓Zh, ↓Zf, ↓Zb, ↓Zc, ↓vdn, vup, Zm, Zk, Zl, Zi, Zo, List.map_cons, List.map_nil, cond_true, cond_false, aop, Zv, Zq, Zp, ev, sput, Zt, Zz, Yb, unK, Zd, Zw, Nat.reduceBEq, Nat.reduceAdd, Int.reduceBEq, Int.reduceBNe, Int.reduceLT, Zu, Ya, tup, tyf])
  clear hN2
  try clear N2
  refine Yh fun Z hZ => ?_
  refine Yc fun N3 hN3 => ?_
  simp (maxSteps := 2000000) only [s83, ↓Za, ↓Zn, ↓Zr, ↓Ze, ↓Zj, ↓Zs, ↓Zg, ↓Zh, ↓Zf, ↓Zb, ↓Zc, ↓vdn, vup, Zm, Zk, Zl, Zi, Zo, List.map_cons, List.map_nil, cond_true, cond_false, aop, Zv, Zq, Zp, ev, sput, Zt, Zz, Yb, unK, Zd, Zw, Nat.reduceBEq, Nat.reduceAdd, Int.reduceBEq, Int.reduceBNe, Int.reduceLT, Zu, Ya, tup, tyf, Xh, List.nil_append, List.append_nil, List.toList_toArray, List.cons_append, loadO b2 Xn hl.2]
  refine (all_call hl.2).mono ?_
  rintro _ H0 ⟨rfl, rfl⟩
  simp (maxSteps := 2000000) only [s83, ↓Za, ↓Zn, ↓Zr, ↓Ze, ↓Zj, ↓Zs, ↓Zg, ↓Zh, ↓Zf, ↓Zb, ↓Zc, ↓vdn, vup, Zm, Zk, Zl, Zi, Zo, List.map_cons, List.map_nil, cond_true, cond_false, aop, Zv, Zq, Zp, ev, sput, Zt, Zz, Yb, unK, Zd, Zw, Nat.reduceBEq, Nat.reduceAdd, Int.reduceBEq, Int.reduceBNe, Int.reduceLT, Zu, Ya, tup, tyf, all_add hl.2]
  refine hN3 [(1, .func (.func fn) #[] cap), (2, .pointer (some ⟨h.length, 0, none⟩)), (4, .slice none 0 0), (5, .slice none 0 0), (9, Zx ((2 ^ o.length : Nat) : Nat)), (10, .int .i64 0)] _ _ ?_ (by simp (maxSteps := 2000000) only [↓Za, ↓Zn, ↓Zr, ↓Ze, ↓Zj, ↓Zs, ↓Zg, ↓Zh, ↓Zf, ↓Zb, ↓Zc, ↓vdn, vup, Zm, Zk, Zl, Zi, Zo, List.map_cons, List.map_nil, cond_true, cond_false, aop, Zv, Zq, Zp, ev, sput, Zt, Zz, Yb, unK, Zd, Zw, Nat.reduceBEq, Nat.reduceAdd, Int.reduceBEq, Int.reduceBNe, Int.reduceLT, Zu, Ya, tup, tyf])
  clear hN3
  try clear N3
  refine Ym ?_
  refine Yl fun Q hQ => ?_
  refine Wc (γ := Nat × Value × Zy) (fun g => g.1 ≤ 2 ^ o.length ∧ OwnSl 3 g.2.2 g.2.1 (iL ((List.range g.1).filter p)) ∧ Ext (fun _ => False) h g.2.2 ∧ ∀ b, Yd g.2.1 = some b → h.length ≤ b)
    (fun g => ([(1, .func (.func fn) #[] cap), (2, .pointer (some ⟨h.length, 0, none⟩)), (4, .slice none 0 0), (5, g.2.1), (9, Zx ((2 ^ o.length : Nat) : Nat)), (10, Zx (g.1 : Nat))], g.2.2)) (fun g => 2 ^ o.length - g.1) (0, .slice none 0 0, H0) ⟨Nat.zero_le _, .inl ⟨rfl, rfl⟩, hE0, fun b hb => by cases hb⟩ (by simp (maxSteps := 2000000) only [↓Za, ↓Zn, ↓Zr, ↓Ze, ↓Zj, ↓Zs, ↓Zg, ↓Zh, ↓Zf, ↓Zb, ↓Zc, ↓vdn, vup, Zm, Zk, Zl, Zi, Zo, List.map_cons, List.map_nil, cond_true, cond_false, aop, Zv, Zq, Zp, ev, sput, Zt, Zz, Yb, unK, Zd, Zw, Nat.reduceBEq, Nat.reduceAdd, Int.reduceBEq, Int.reduceBNe, Int.reduceLT, Zu, Ya, tup, tyf, Int.natCast_zero]) rfl ?_
  rintro ⟨s, w, H⟩ ⟨hs, how, hEH, hbw⟩
  simp only at hs how hEH hbw
  refine Yl fun Q2 hQ2 => ?_
  simp only [l83_0]
  by_cases hin : (s : Int) < ((2 ^ o.length : Nat) : Int)
  · have hs' : s < 2 ^ o.length := by omega
    have hfs := filter_succ (p := p) s
    have hfl := filter_len p s
    refine Yc fun N4 hN4 => ?_
    simp (maxSteps := 2000000) only [s83, ↓Za, ↓Zn, ↓Zr, ↓Ze, ↓Zj, ↓Zs, ↓Zg, ↓Zh, ↓Zf, ↓Zb, ↓Zc, ↓vdn, vup, Zm, Zk, Zl, Zi, Zo, List.map_cons, List.map_nil, cond_true, cond_false, aop, Zv, Zq, Zp, ev, sput, Zt, Zz, Yb, unK, Zd, Zw, Nat.reduceBEq, Nat.reduceAdd, Int.reduceBEq, Int.reduceBNe, Int.reduceLT, Zu, Ya, tup, tyf, hin]
    refine hN4 [(1, .func (.func fn) #[] cap), (2, .pointer (some ⟨h.length, 0, none⟩)), (4, .slice none 0 0), (5, w), (9, Zx ((2 ^ o.length : Nat) : Nat)), (10, Zx (s : Nat)), (11, .bool true)] _ _ ?_ (by simp (maxSteps := 2000000) only [↓Za, ↓Zn, ↓Zr, ↓Ze, ↓Zj, ↓Zs, ↓Zg, ↓Zh, ↓Zf, ↓Zb, ↓Zc, ↓vdn, vup, Zm, Zk, Zl, Zi, Zo, List.map_cons, List.map_nil, cond_true, cond_false, aop, Zv, Zq, Zp, ev, sput, Zt, Zz, Yb, unK, Zd, Zw, Nat.reduceBEq, Nat.reduceAdd, Int.reduceBEq, Int.reduceBNe, Int.reduceLT, Zu, Ya, tup, tyf])
    clear hN4
    try clear N4
    refine Yc fun N5 hN5 => ?_
    simp (maxSteps := 2000000) only [s83, ↓Za, ↓Zn, ↓Zr, ↓Ze, ↓Zj, ↓Zs, ↓Zg, ↓Zh, ↓Zf, ↓Zb, ↓Zc, ↓vdn, vup, Zm, Zk, Zl, Zi, Zo, List.map_cons, List.map_nil, cond_true, cond_false, aop, Zv, Zq, Zp, ev, sput, Zt, Zz, Yb, unK, Zd, Zw, Nat.reduceBEq, Nat.reduceAdd, Int.reduceBEq, Int.reduceBNe, Int.reduceLT, Zu, Ya, tup, tyf]
    refine hN5 [(1, .func (.func fn) #[] cap), (2, .pointer (some ⟨h.length, 0, none⟩)), (4, .slice none 0 0), (5, w), (9, Zx ((2 ^ o.length : Nat) : Nat)), (10, Zx (s : Nat))] _ _ ?_ (by simp (maxSteps := 2000000) only [↓Za, ↓Zn, ↓Zr, ↓Ze, ↓Zj, ↓Zs, ↓Zg, ↓Zh, ↓Zf, ↓Zb, ↓Zc, ↓vdn, vup, Zm, Zk, Zl, Zi, Zo, List.map_cons, List.map_nil, cond_true, cond_false, aop, Zv, Zq, Zp, ev, sput, Zt, Zz, Yb, unK, Zd, Zw, Nat.reduceBEq, Nat.reduceAdd, Int.reduceBEq, Int.reduceBNe, Int.reduceLT, Zu, Ya, tup, tyf])
    clear hN5
    try clear N5
    refine Yh fun B hB => ?_
    refine Ym ?_
    refine Yc fun N6 hN6 => ?_
    simp (maxSteps := 2000000) only [s83, ↓Za, ↓Zn, ↓Zr, ↓Ze, ↓Zj, ↓Zs, ↓Zg, ↓Zh, ↓Zf, ↓Zb, ↓Zc, ↓vdn, vup, Zm, Zk, Zl, Zi, Zo, List.map_cons, List.map_nil, cond_true, cond_false, aop, Zv, Zq, Zp, ev, sput, Zt, Zz, Yb, unK, Zd, Zw, Nat.reduceBEq, Nat.reduceAdd, Int.reduceBEq, Int.reduceBNe, Int.reduceLT, Zu, Ya, tup, tyf]
    refine hN6 [(1, .func (.func fn) #[] cap), (2, .pointer (some ⟨h.length, 0, none⟩)), (4, .slice none 0 0), (5, w), (6, Zx (s : Nat)), (9, Zx ((2 ^ o.length : Nat) : Nat)), (10, Zx (s : Nat))] _ _ ?_ (by simp (maxSteps := 2000000) only [↓Za, ↓Zn, ↓Zr, ↓Ze, ↓Zj, ↓Zs, ↓Zg, ↓Zh, ↓Zf, ↓Zb, ↓Zc, ↓vdn, vup, Zm, Zk, Zl, Zi, Zo, List.map_cons, List.map_nil, cond_true, cond_false, aop, Zv, Zq, Zp, ev, sput, Zt, Zz, Yb, unK, Zd, Zw, Nat.reduceBEq, Nat.reduceAdd, Int.reduceBEq, Int.reduceBNe, Int.reduceLT, Zu, Ya, tup, tyf])
    clear hN6
    try clear N6
    refine Yc fun N7 hN7 => ?_
    simp (maxSteps := 2000000) only [s83, ↓Za, ↓Zn, ↓Zr, ↓Ze, ↓Zj, ↓Zs, ↓Zg, ↓Zh, ↓Zf, ↓Zb, ↓Zc, ↓vdn, vup, Zm, Zk, Zl, Zi, Zo, List.map_cons, List.map_nil, cond_true, cond_false, aop, Zv, Zq, Zp, ev, sput, Zt, Zz, Yb, unK, Zd, Zw, Nat.reduceBEq, Nat.reduceAdd, Int.reduceBEq, Int.reduceBNe, Int.reduceLT, Zu, Ya, tup, tyf, Xh]
    refine (hf s H hs' hEH).mono ?_
    rintro _ H ⟨rfl, rfl⟩
    refine hN7 [(1, .func (.func fn) #[] cap), (2, .pointer (some ⟨h.length, 0, none⟩)), (4, .slice none 0 0), (5, w), (6, Zx (s : Nat)), (9, Zx ((2 ^ o.length : Nat) : Nat)), (10, Zx (s : Nat)), (15, .bool (p s))] _ _ ?_ (by simp (maxSteps := 2000000) only [↓Za, ↓Zn, ↓Zr, ↓Ze, ↓Zj, ↓Zs, ↓Zg, ↓Zh, ↓Zf, ↓Zb, ↓Zc, ↓vdn, vup, Zm, Zk, Zl, Zi, Zo, List.map_cons, List.map_nil, cond_true, cond_false, aop, Zv, Zq, Zp, ev, sput, Zt, Zz, Yb, unK, Zd, Zw, Nat.reduceBEq, Nat.reduceAdd, Int.reduceBEq, Int.reduceBNe, Int.reduceLT, Zu, Ya, tup, tyf])
    clear hN7
    try clear N7
    cases hid : p s with
    | true =>
      rw [hid, if_pos rfl] at hfs
      refine Vf rfl ?_
      refine Yn ?_
      simp (maxSteps := 2000000) only [s83, ↓Za, ↓Zn, ↓Zr, ↓Ze, ↓Zj, ↓Zs, ↓Zg, ↓Zh, ↓Zf, ↓Zb, ↓Zc, ↓vdn, vup, Zm, Zk, Zl, Zi, Zo, List.map_cons, List.map_nil, cond_true, cond_false, aop, Zv, Zq, Zp, ev, sput, Zt, Zz, Yb, unK, Zd, Zw, Nat.reduceBEq, Nat.reduceAdd, Int.reduceBEq, Int.reduceBNe, Int.reduceLT, Zu, Ya, tup, tyf, litI1]
      refine OwnSl.append (x := (s : Int)) (how.ext (S := fun _ => False) (Ext.app _ _ _) (fun _ _ => id)) app_22_22 (by rw [iL_len]; omega) (Yp _ _) ?_
      intro w' G ho' hE' hb'
      rw [iL_snoc, ← hfs] at ho'
      have hE2 : Ext (fun _ => False) h G := ext_app hEH (H' := H ++ [Blk.ints [(s : Int)] 3 false]) (by simp) (fun q hq => List.getElem?_append_left (by have := hEH.1; omega)) (fun b hb => hbw b hb) hE'
      have hbw' : ∀ b, Yd w' = some b → h.length ≤ b := fun b hb => by
        rcases hb' with h1 | ⟨b', h1, h2⟩
        · exact hbw b (h1 ▸ hb)
        · rw [h1] at hb; cases hb
          rw [List.length_append] at h2
          have := hEH.1; omega
      refine hB [(1, .func (.func fn) #[] cap), (2, .pointer (some ⟨h.length, 0, none⟩)), (4, .slice none 0 0), (5, w'), (9, Zx ((2 ^ o.length : Nat) : Nat)), (10, Zx (s : Nat))] _ _ ?_ (by simp (maxSteps := 2000000) only [↓Za, ↓Zn, ↓Zr, ↓Ze, ↓Zj, ↓Zs, ↓Zg, ↓Zh, ↓Zf, ↓Zb, ↓Zc, ↓vdn, vup, Zm, Zk, Zl, Zi, Zo, List.map_cons, List.map_nil, cond_true, cond_false, aop, Zv, Zq, Zp, ev, sput, Zt, Zz, Yb, unK, Zd, Zw, Nat.reduceBEq, Nat.reduceAdd, Int.reduceBEq, Int.reduceBNe, Int.reduceLT, Zu, Ya, tup, tyf])
      clear hB
      try clear B
      refine Yn ?_
      simp (maxSteps := 2000000) only [s83, ↓Za, ↓Zn, ↓Zr, ↓Ze, ↓Zj, ↓Zs, ↓Zg, ↓Zh, ↓Zf, ↓Zb, ↓Zc, ↓vdn, vup, Zm, Zk, Zl, Zi, Zo, List.map_cons, List.map_nil, cond_true, cond_false, aop, Zv, Zq, Zp, ev, sput, Zt, Zz, Yb, unK, Zd, Zw, Nat.reduceBEq, Nat.reduceAdd, Int.reduceBEq, Int.reduceBNe, Int.reduceLT, Zu, Ya, tup, tyf, add1 (show s < 9223372036854775807 by omega)]
      exact hQ2 _ _ _ ⟨(s + 1, w', G), ⟨hs', ho', hE2, hbw'⟩, by simp only; omega, by simp (maxSteps := 2000000) only [↓Za, ↓Zn, ↓Zr, ↓Ze, ↓Zj, ↓Zs, ↓Zg, ↓Zh, ↓Zf, ↓Zb, ↓Zc, ↓vdn, vup, Zm, Zk, Zl, Zi, Zo, List.map_cons, List.map_nil, cond_true, cond_false, aop, Zv, Zq, Zp, ev, sput, Zt, Zz, Yb, unK, Zd, Zw, Nat.reduceBEq, Nat.reduceAdd, Int.reduceBEq, Int.reduceBNe, Int.reduceLT, Zu, Ya, tup, tyf], rfl⟩
    | false =>
      rw [hid, if_neg (by decide), List.append_nil] at hfs
      refine Xt rfl ?_
      refine Yn ?_
      simp (maxSteps := 2000000) only [s83, ↓Za, ↓Zn, ↓Zr, ↓Ze, ↓Zj, ↓Zs, ↓Zg, ↓Zh, ↓Zf, ↓Zb, ↓Zc, ↓vdn, vup, Zm, Zk, Zl, Zi, Zo, List.map_cons, List.map_nil, cond_true, cond_false, aop, Zv, Zq, Zp, ev, sput, Zt, Zz, Yb, unK, Zd, Zw, Nat.reduceBEq, Nat.reduceAdd, Int.reduceBEq, Int.reduceBNe, Int.reduceLT, Zu, Ya, tup, tyf]
      refine hB [(1, .func (.func fn) #[] cap), (2, .pointer (some ⟨h.length, 0, none⟩)), (4, .slice none 0 0), (5, w), (9, Zx ((2 ^ o.length : Nat) : Nat)), (10, Zx (s : Nat))] _ _ ?_ (by simp (maxSteps := 2000000) only [↓Za, ↓Zn, ↓Zr, ↓Ze, ↓Zj, ↓Zs, ↓Zg, ↓Zh, ↓Zf, ↓Zb, ↓Zc, ↓vdn, vup, Zm, Zk, Zl, Zi, Zo, List.map_cons, List.map_nil, cond_true, cond_false, aop, Zv, Zq, Zp, ev, sput, Zt, Zz, Yb, unK, Zd, Zw, Nat.reduceBEq, Nat.reduceAdd, Int.reduceBEq, Int.reduceBNe, Int.reduceLT, Zu, Ya, tup, tyf])
      clear hB
      try clear B
      refine Yn ?_
      simp (maxSteps := 2000000) only [s83, ↓Za, ↓Zn, ↓Zr, ↓Ze, ↓Zj, ↓Zs, ↓Zg, ↓Zh, ↓Zf, ↓Zb, ↓Zc, ↓vdn, vup, Zm, Zk, Zl, Zi, Zo, List.map_cons, List.map_nil, cond_true, cond_false, aop, Zv, Zq, Zp, ev, sput, Zt, Zz, Yb, unK, Zd, Zw, Nat.reduceBEq, Nat.reduceAdd, Int.reduceBEq, Int.reduceBNe, Int.reduceLT, Zu, Ya, tup, tyf, add1 (show s < 9223372036854775807 by omega)]
      exact hQ2 _ _ _ ⟨(s + 1, w, H), ⟨hs', by simp only; rw [hfs]; exact how, hEH, hbw⟩, by simp only; omega, by simp (maxSteps := 2000000) only [↓Za, ↓Zn, ↓Zr, ↓Ze, ↓Zj, ↓Zs, ↓Zg, ↓Zh, ↓Zf, ↓Zb, ↓Zc, ↓vdn, vup, Zm, Zk, Zl, Zi, Zo, List.map_cons, List.map_nil, cond_true, cond_false, aop, Zv, Zq, Zp, ev, sput, Zt, Zz, Yb, unK, Zd, Zw, Nat.reduceBEq, Nat.reduceAdd, Int.reduceBEq, Int.reduceBNe, Int.reduceLT, Zu, Ya, tup, tyf], rfl⟩
  · obtain rfl : s = 2 ^ o.length := by omega
    refine Yc fun N8 hN8 => ?_
    simp (maxSteps := 2000000) only [s83, ↓Za, ↓Zn, ↓Zr, ↓Ze, ↓Zj, ↓Zs, ↓Zg, ↓Zh, ↓Zf, ↓Zb, ↓Zc, ↓vdn, vup, Zm, Zk, Zl, Zi, Zo, List.map_cons, List.map_nil, cond_true, cond_false, aop, Zv, Zq, Zp, ev, sput, Zt, Zz, Yb, unK, Zd, Zw, Nat.reduceBEq, Nat.reduceAdd, Int.reduceBEq, Int.reduceBNe, Int.reduceLT, Zu, Ya, tup, tyf, hin]
    refine hN8 [(1, .func (.func fn) #[] cap), (2, .pointer (some ⟨h.length, 0, none⟩)), (4, .slice none 0 0), (5, w), (9, Zx ((2 ^ o.length : Nat) : Nat)), (10, Zx ((2 ^ o.length : Nat) : Nat)), (11, .bool false)] _ _ ?_ (by simp (maxSteps := 2000000) only [↓Za, ↓Zn, ↓Zr, ↓Ze, ↓Zj, ↓Zs, ↓Zg, ↓Zh, ↓Zf, ↓Zb, ↓Zc, ↓vdn, vup, Zm, Zk, Zl, Zi, Zo, List.map_cons, List.map_nil, cond_true, cond_false, aop, Zv, Zq, Zp, ev, sput, Zt, Zz, Yb, unK, Zd, Zw, Nat.reduceBEq, Nat.reduceAdd, Int.reduceBEq, Int.reduceBNe, Int.reduceLT, Zu, Ya, tup, tyf])
    clear hN8
    try clear N8
    refine Yc fun N9 hN9 => ?_
    simp (maxSteps := 2000000) only [s83, ↓Za, ↓Zn, ↓Zr, ↓Ze, ↓Zj, ↓Zs, ↓Zg, ↓Zh, ↓Zf, ↓Zb, ↓Zc, ↓vdn, vup, Zm, Zk, Zl, Zi, Zo, List.map_cons, List.map_nil, cond_true, cond_false, aop, Zv, Zq, Zp, ev, sput, Zt, Zz, Yb, unK, Zd, Zw, Nat.reduceBEq, Nat.reduceAdd, Int.reduceBEq, Int.reduceBNe, Int.reduceLT, Zu, Ya, tup, tyf]
    refine hQ2 _ _ _ (hQ _ _ _ ?_)
    simp (maxSteps := 2000000) only [s83, ↓Za, ↓Zn, ↓Zr, ↓Ze, ↓Zj, ↓Zs, ↓Zg, ↓Zh, ↓Zf, ↓Zb, ↓Zc, ↓vdn, vup, Zm, Zk, Zl, Zi, Zo, List.map_cons, List.map_nil, cond_true, cond_false, aop, Zv, Zq, Zp, ev, sput, Zt, Zz, Yb, unK, Zd, Zw, Nat.reduceBEq, Nat.reduceAdd, Int.reduceBEq, Int.reduceBNe, Int.reduceLT, Zu, Ya, tup, tyf, if_true]
    refine hZ [(1, .func (.func fn) #[] cap), (2, .pointer (some ⟨h.length, 0, none⟩)), (4, .slice none 0 0), (5, w)] _ _ ?_ (by simp (maxSteps := 2000000) only [↓Za, ↓Zn, ↓Zr, ↓Ze, ↓Zj, ↓Zs, ↓Zg, ↓Zh, ↓Zf, ↓Zb, ↓Zc, ↓vdn, vup, Zm, Zk, Zl, Zi, Zo, List.map_cons, List.map_nil, cond_true, cond_false, aop, Zv, Zq, Zp, ev, sput, Zt, Zz, Yb, unK, Zd, Zw, Nat.reduceBEq, Nat.reduceAdd, Int.reduceBEq, Int.reduceBNe, Int.reduceLT, Zu, Ya, tup, tyf])
    clear hZ
    try clear Z
    refine Yn ?_
    simp (maxSteps := 2000000) only [s83, ↓Za, ↓Zn, ↓Zr, ↓Ze, ↓Zj, ↓Zs, ↓Zg, ↓Zh, ↓Zf, ↓Zb, ↓Zc, ↓vdn, vup, Zm, Zk, Zl, Zi, Zo, List.map_cons, List.map_nil, cond_true, cond_false, aop, Zv, Zq, Zp, ev, sput, Zt, Zz, Yb, unK, Zd, Zw, Nat.reduceBEq, Nat.reduceAdd, Int.reduceBEq, Int.reduceBNe, Int.reduceLT, Zu, Ya, tup, tyf]
    exact ⟨how, hEH, hbw⟩

theorem s88_callW [Tabs Tryd.prog] {args : List Value} {h : Zy} {Q : Value → Zy → Prop} (hsz : args.length ≤ 18) (hk : AWS Tryd.prog 18 s88 (Zu Tryd.prog [.tmp 2] Q) (Zp 0 args) h) : ACall Tryd.prog 88 args h Q :=
  acall_w Tryd.func88 rfl (enters_of Tryd.func88 (by kernel_rfl) rfl) rfl rfl (by decide) s88_strip s88_ok hsz hk
theorem or_call [Tabs prog] {h : Zy} {v : Value} {x y : Int} (hv : IntSl h v [x, y]) : Vn prog 88 [v] h (Zx (if x = 0 then y else x)) := by
  have hl2 : ((([x, y] : List Int).length : Nat) : Int) = 2 := rfl
  refine s88_callW (by simp) ?_
  simp only [s88]
  refine Yc fun N10 hN10 => ?_
  simp (maxSteps := 2000000) only [s88, ↓Za, ↓Zn, ↓Zr, ↓Ze, ↓Zj, ↓Zs, ↓Zg, ↓Zh, ↓Zf, ↓Zb, ↓Zc, ↓vdn, vup, Zm, Zk, Zl, Zi, Zo, List.map_cons, List.map_nil, cond_true, cond_false, aop, Zv, Zq, Zp, ev, sput, Zt, Zz, Yb, unK, Zd, Zw, Nat.reduceBEq, Nat.reduceAdd, Int.reduceBEq, Int.reduceBNe, Int.reduceLT, Zu, Ya, tup, tyf]
  refine hN10 [(0, v), (2, .int .i64 0)] _ _ ?_ (by simp (maxSteps := 2000000) only [↓Za, ↓Zn, ↓Zr, ↓Ze, ↓Zj, ↓Zs, ↓Zg, ↓Zh, ↓Zf, ↓Zb, ↓Zc, ↓vdn, vup, Zm, Zk, Zl, Zi, Zo, List.map_cons, List.map_nil, cond_true, cond_false, aop, Zv, Zq, Zp, ev, sput, Zt, Zz, Yb, unK, Zd, Zw, Nat.reduceBEq, Nat.reduceAdd, Int.reduceBEq, Int.reduceBNe, Int.reduceLT, Zu, Ya, tup, tyf])
  clear hN10
  try clear N10
  refine Yc fun N11 hN11 => ?_
  simp (maxSteps := 2000000) only [s88, ↓Za, ↓Zn, ↓Zr, ↓Ze, ↓Zj, ↓Zs, ↓Zg, ↓Zh, ↓Zf, ↓Zb, ↓Zc, ↓vdn, vup, Zm, Zk, Zl, Zi, Zo, List.map_cons, List.map_nil, cond_true, cond_false, aop, Zv, Zq, Zp, ev, sput, Zt, Zz, Yb, unK, Zd, Zw, Nat.reduceBEq, Nat.reduceAdd, Int.reduceBEq, Int.reduceBNe, Int.reduceLT, Zu, Ya, tup, tyf]
  refine hN11 [(0, v), (2, .int .i64 0), (3, .int .i64 0)] _ _ ?_ (by simp (maxSteps := 2000000) only [↓Za, ↓Zn, ↓Zr, ↓Ze, ↓Zj, ↓Zs, ↓Zg, ↓Zh, ↓Zf, ↓Zb, ↓Zc, ↓vdn, vup, Zm, Zk, Zl, Zi, Zo, List.map_cons, List.map_nil, cond_true, cond_false, aop, Zv, Zq, Zp, ev, sput, Zt, Zz, Yb, unK, Zd, Zw, Nat.reduceBEq, Nat.reduceAdd, Int.reduceBEq, Int.reduceBNe, Int.reduceLT, Zu, Ya, tup, tyf])
  clear hN11
  try clear N11
  refine Yh fun Z hZ => ?_
  refine Yc fun N12 hN12 => ?_
  simp (maxSteps := 2000000) only [s88, ↓Za, ↓Zn, ↓Zr, ↓Ze, ↓Zj, ↓Zs, ↓Zg, ↓Zh, ↓Zf, ↓Zb, ↓Zc, ↓vdn, vup, Zm, Zk, Zl, Zi, Zo, List.map_cons, List.map_nil, cond_true, cond_false, aop, Zv, Zq, Zp, ev, sput, Zt, Zz, Yb, unK, Zd, Zw, Nat.reduceBEq, Nat.reduceAdd, Int.reduceBEq, Int.reduceBNe, Int.reduceLT, Zu, Ya, tup, tyf, hv.len, hl2]
  refine hN12 [(0, v), (2, .int .i64 0), (3, .int .i64 0), (6, v), (7, .int .i64 2), (8, .int .i64 0)] _ _ ?_ (by simp (maxSteps := 2000000) only [↓Za, ↓Zn, ↓Zr, ↓Ze, ↓Zj, ↓Zs, ↓Zg, ↓Zh, ↓Zf, ↓Zb, ↓Zc, ↓vdn, vup, Zm, Zk, Zl, Zi, Zo, List.map_cons, List.map_nil, cond_true, cond_false, aop, Zv, Zq, Zp, ev, sput, Zt, Zz, Yb, unK, Zd, Zw, Nat.reduceBEq, Nat.reduceAdd, Int.reduceBEq, Int.reduceBNe, Int.reduceLT, Zu, Ya, tup, tyf])
  clear hN12
  try clear N12
  refine Ym ?_
  refine Yl fun Q hQ => ?_
  refine Wc (γ := Nat) (fun k => k ≤ 2 ∧ ∀ i, i < k → [x, y].getD i 0 = 0) (fun k => ([(0, v), (2, .int .i64 0), (3, .int .i64 0), (6, v), (7, .int .i64 2), (8, Zx (k : Nat))], h)) (fun k => 2 - k) 0 ⟨Nat.zero_le _, fun i hi => absurd hi (Nat.not_lt_zero i)⟩ (by simp (maxSteps := 2000000) only [↓Za, ↓Zn, ↓Zr, ↓Ze, ↓Zj, ↓Zs, ↓Zg, ↓Zh, ↓Zf, ↓Zb, ↓Zc, ↓vdn, vup, Zm, Zk, Zl, Zi, Zo, List.map_cons, List.map_nil, cond_true, cond_false, aop, Zv, Zq, Zp, ev, sput, Zt, Zz, Yb, unK, Zd, Zw, Nat.reduceBEq, Nat.reduceAdd, Int.reduceBEq, Int.reduceBNe, Int.reduceLT, Zu, Ya, tup, tyf, Int.natCast_zero]) rfl ?_
  rintro k ⟨hk, hz⟩
  refine Yl fun Q2 hQ2 => ?_
  simp only [l88_0]
  by_cases hin : (k : Int) < 2
  · have hk2 : k < [x, y].length := by simp; omega
    obtain ⟨z, hzz⟩ : ∃ z, [x, y].getD k 0 = z := ⟨_, rfl⟩
    refine Yc fun N13 hN13 => ?_
    simp (maxSteps := 2000000) only [s88, ↓Za, ↓Zn, ↓Zr, ↓Ze, ↓Zj, ↓Zs, ↓Zg, ↓Zh, ↓Zf, ↓Zb, ↓Zc, ↓vdn, vup, Zm, Zk, Zl, Zi, Zo, List.map_cons, List.map_nil, cond_true, cond_false, aop, Zv, Zq, Zp, ev, sput, Zt, Zz, Yb, unK, Zd, Zw, Nat.reduceBEq, Nat.reduceAdd, Int.reduceBEq, Int.reduceBNe, Int.reduceLT, Zu, Ya, tup, tyf, hin]
    refine hN13 [(0, v), (2, .int .i64 0), (3, .int .i64 0), (6, v), (7, .int .i64 2), (8, Zx (k : Nat)), (9, .bool true)] _ _ ?_ (by simp (maxSteps := 2000000) only [↓Za, ↓Zn, ↓Zr, ↓Ze, ↓Zj, ↓Zs, ↓Zg, ↓Zh, ↓Zf, ↓Zb, ↓Zc, ↓vdn, vup, Zm, Zk, Zl, Zi, Zo, List.map_cons, List.map_nil, cond_true, cond_false, aop, Zv, Zq, Zp, ev, sput, Zt, Zz, Yb, unK, Zd, Zw, Nat.reduceBEq, Nat.reduceAdd, Int.reduceBEq, Int.reduceBNe, Int.reduceLT, Zu, Ya, tup, tyf])
    clear hN13
    try clear N13
    refine Yc fun N14 hN14 => ?_
    simp (maxSteps := 2000000) only [s88, ↓Za, ↓Zn, ↓Zr, ↓Ze, ↓Zj, ↓Zs, ↓Zg, ↓Zh, ↓Zf, ↓Zb, ↓Zc, ↓vdn, vup, Zm, Zk, Zl, Zi, Zo, List.map_cons, List.map_nil, cond_true, cond_false, aop, Zv, Zq, Zp, ev, sput, Zt, Zz, Yb, unK, Zd, Zw, Nat.reduceBEq, Nat.reduceAdd, Int.reduceBEq, Int.reduceBNe, Int.reduceLT, Zu, Ya, tup, tyf]
    refine hN14 [(0, v), (2, .int .i64 0), (3, .int .i64 0), (6, v), (7, .int .i64 2), (8, Zx (k : Nat))] _ _ ?_ (by simp (maxSteps := 2000000) only [↓Za, ↓Zn, ↓Zr, ↓Ze, ↓Zj, ↓Zs, ↓Zg, ↓Zh, ↓Zf, ↓Zb, ↓Zc, ↓vdn, vup, Zm, Zk, Zl, Zi, Zo, List.map_cons, List.map_nil, cond_true, cond_false, aop, Zv, Zq, Zp, ev, sput, Zt, Zz, Yb, unK, Zd, Zw, Nat.reduceBEq, Nat.reduceAdd, Int.reduceBEq, Int.reduceBNe, Int.reduceLT, Zu, Ya, tup, tyf])
    clear hN14
    try clear N14
    refine Yh fun B hB => ?_
    refine Ym ?_
    refine Yc fun N15 hN15 => ?_
    simp (maxSteps := 2000000) only [s88, ↓Za, ↓Zn, ↓Zr, ↓Ze, ↓Zj, ↓Zs, ↓Zg, ↓Zh, ↓Zf, ↓Zb, ↓Zc, ↓vdn, vup, Zm, Zk, Zl, Zi, Zo, List.map_cons, List.map_nil, cond_true, cond_false, aop, Zv, Zq, Zp, ev, sput, Zt, Zz, Yb, unK, Zd, Zw, Nat.reduceBEq, Nat.reduceAdd, Int.reduceBEq, Int.reduceBNe, Int.reduceLT, Zu, Ya, tup, tyf, hv.idx Wq Xx hk2, hv.load Yv hk2, hzz]
    refine hN15 [(0, v), (2, .int .i64 0), (3, .int .i64 0), (5, .int .i64 z), (6, v), (7, .int .i64 2), (8, Zx (k : Nat))] _ _ ?_ (by simp (maxSteps := 2000000) only [↓Za, ↓Zn, ↓Zr, ↓Ze, ↓Zj, ↓Zs, ↓Zg, ↓Zh, ↓Zf, ↓Zb, ↓Zc, ↓vdn, vup, Zm, Zk, Zl, Zi, Zo, List.map_cons, List.map_nil, cond_true, cond_false, aop, Zv, Zq, Zp, ev, sput, Zt, Zz, Yb, unK, Zd, Zw, Nat.reduceBEq, Nat.reduceAdd, Int.reduceBEq, Int.reduceBNe, Int.reduceLT, Zu, Ya, tup, tyf])
    clear hN15
    try clear N15
    refine Yc fun N16 hN16 => ?_
    simp (maxSteps := 2000000) only [s88, ↓Za, ↓Zn, ↓Zr, ↓Ze, ↓Zj, ↓Zs, ↓Zg, ↓Zh, ↓Zf, ↓Zb, ↓Zc, ↓vdn, vup, Zm, Zk, Zl, Zi, Zo, List.map_cons, List.map_nil, cond_true, cond_false, aop, Zv, Zq, Zp, ev, sput, Zt, Zz, Yb, unK, Zd, Zw, Nat.reduceBEq, Nat.reduceAdd, Int.reduceBEq, Int.reduceBNe, Int.reduceLT, Zu, Ya, tup, tyf]
    refine hN16 [(0, v), (2, .int .i64 0), (3, .int .i64 0), (5, .int .i64 z), (6, v), (7, .int .i64 2), (8, Zx (k : Nat)), (14, .bool (z != 0))] _ _ ?_ (by simp (maxSteps := 2000000) only [↓Za, ↓Zn, ↓Zr, ↓Ze, ↓Zj, ↓Zs, ↓Zg, ↓Zh, ↓Zf, ↓Zb, ↓Zc, ↓vdn, vup, Zm, Zk, Zl, Zi, Zo, List.map_cons, List.map_nil, cond_true, cond_false, aop, Zv, Zq, Zp, ev, sput, Zt, Zz, Yb, unK, Zd, Zw, Nat.reduceBEq, Nat.reduceAdd, Int.reduceBEq, Int.reduceBNe, Int.reduceLT, Zu, Ya, tup, tyf])
    clear hN16
    try clear N16
    by_cases h0 : z = 0
    · have hz0 : (z != 0) = false := by rw [h0]; rfl
      rw [hz0]
      refine Xt rfl ?_
      refine Yn ?_
      simp (maxSteps := 2000000) only [s88, ↓Za, ↓Zn, ↓Zr, ↓Ze, ↓Zj, ↓Zs, ↓Zg, ↓Zh, ↓Zf, ↓Zb, ↓Zc, ↓vdn, vup, Zm, Zk, Zl, Zi, Zo, List.map_cons, List.map_nil, cond_true, cond_false, aop, Zv, Zq, Zp, ev, sput, Zt, Zz, Yb, unK, Zd, Zw, Nat.reduceBEq, Nat.reduceAdd, Int.reduceBEq, Int.reduceBNe, Int.reduceLT, Zu, Ya, tup, tyf]
      refine hB [(0, v), (2, .int .i64 0), (3, .int .i64 0), (6, v), (7, .int .i64 2), (8, Zx (k : Nat))] _ _ ?_ (by simp (maxSteps := 2000000) only [↓Za, ↓Zn, ↓Zr, ↓Ze, ↓Zj, ↓Zs, ↓Zg, ↓Zh, ↓Zf, ↓Zb, ↓Zc, ↓vdn, vup, Zm, Zk, Zl, Zi, Zo, List.map_cons, List.map_nil, cond_true, cond_false, aop, Zv, Zq, Zp, ev, sput, Zt, Zz, Yb, unK, Zd, Zw, Nat.reduceBEq, Nat.reduceAdd, Int.reduceBEq, Int.reduceBNe, Int.reduceLT, Zu, Ya, tup, tyf])
      clear hB
      try clear B
      refine Yn ?_
      simp (maxSteps := 2000000) only [s88, ↓Za, ↓Zn, ↓Zr, ↓Ze, ↓Zj, ↓Zs, ↓Zg, ↓Zh, ↓Zf, ↓Zb, ↓Zc, ↓vdn, vup, Zm, Zk, Zl, Zi, Zo, List.map_cons, List.map_nil, cond_true, cond_false, aop, Zv, Zq, Zp, ev, sput, Zt, Zz, Yb, unK, Zd, Zw, Nat.reduceBEq, Nat.reduceAdd, Int.reduceBEq, Int.reduceBNe, Int.reduceLT, Zu, Ya, tup, tyf, add1 (show k < 9223372036854775807 by omega)]
      refine hQ2 _ _ _ ⟨k + 1, ⟨by omega, fun i hi => ?_⟩, by omega, by simp (maxSteps := 2000000) only [↓Za, ↓Zn, ↓Zr, ↓Ze, ↓Zj, ↓Zs, ↓Zg, ↓Zh, ↓Zf, ↓Zb, ↓Zc, ↓vdn, vup, Zm, Zk, Zl, Zi, Zo, List.map_cons, List.map_nil, cond_true, cond_false, aop, Zv, Zq, Zp, ev, sput, Zt, Zz, Yb, unK, Zd, Zw, Nat.reduceBEq, Nat.reduceAdd, Int.reduceBEq, Int.reduceBNe, Int.reduceLT, Zu, Ya, tup, tyf], rfl⟩
      by_cases he : i = k
      · rw [he, hzz, h0]
      · exact hz i (by omega)
    · have hz0 : (z != 0) = true := by simpa using h0
      rw [hz0]
      refine Vf rfl ?_
      refine Yn ?_
      simp (maxSteps := 2000000) only [s88, ↓Za, ↓Zn, ↓Zr, ↓Ze, ↓Zj, ↓Zs, ↓Zg, ↓Zh, ↓Zf, ↓Zb, ↓Zc, ↓vdn, vup, Zm, Zk, Zl, Zi, Zo, List.map_cons, List.map_nil, cond_true, cond_false, aop, Zv, Zq, Zp, ev, sput, Zt, Zz, Yb, unK, Zd, Zw, Nat.reduceBEq, Nat.reduceAdd, Int.reduceBEq, Int.reduceBNe, Int.reduceLT, Zu, Ya, tup, tyf]
      refine hQ2 _ _ _ (hQ _ _ _ ?_)
      have hres : z = if x = 0 then y else x := by
        have hk01 : k = 0 ∨ k = 1 := by omega
        rcases hk01 with rfl | rfl
        · have e : x = z := hzz
          rw [e, if_neg h0]
        · have e : y = z := hzz
          have e0 : x = 0 := hz 0 (by omega)
          rw [if_pos e0, e]
      simp (maxSteps := 2000000) only [s88, ↓Za, ↓Zn, ↓Zr, ↓Ze, ↓Zj, ↓Zs, ↓Zg, ↓Zh, ↓Zf, ↓Zb, ↓Zc, ↓vdn, vup, Zm, Zk, Zl, Zi, Zo, List.map_cons, List.map_nil, cond_true, cond_false, aop, Zv, Zq, Zp, ev, sput, Zt, Zz, Yb, unK, Zd, Zw, Nat.reduceBEq, Nat.reduceAdd, Int.reduceBEq, Int.reduceBNe, Int.reduceLT, Zu, Ya, tup, tyf, hres]
  · obtain rfl : k = 2 := by omega
    refine Yc fun N17 hN17 => ?_
    simp (maxSteps := 2000000) only [s88, ↓Za, ↓Zn, ↓Zr, ↓Ze, ↓Zj, ↓Zs, ↓Zg, ↓Zh, ↓Zf, ↓Zb, ↓Zc, ↓vdn, vup, Zm, Zk, Zl, Zi, Zo, List.map_cons, List.map_nil, cond_true, cond_false, aop, Zv, Zq, Zp, ev, sput, Zt, Zz, Yb, unK, Zd, Zw, Nat.reduceBEq, Nat.reduceAdd, Int.reduceBEq, Int.reduceBNe, Int.reduceLT, Zu, Ya, tup, tyf, hin]
    refine hN17 [(0, v), (2, .int .i64 0), (3, .int .i64 0), (6, v), (7, .int .i64 2), (8, Zx (2 : Nat)), (9, .bool false)] _ _ ?_ (by simp (maxSteps := 2000000) only [↓Za, ↓Zn, ↓Zr, ↓Ze, ↓Zj, ↓Zs, ↓Zg, ↓Zh, ↓Zf, ↓Zb, ↓Zc, ↓vdn, vup, Zm, Zk, Zl, Zi, Zo, List.map_cons, List.map_nil, cond_true, cond_false, aop, Zv, Zq, Zp, ev, sput, Zt, Zz, Yb, unK, Zd, Zw, Nat.reduceBEq, Nat.reduceAdd, Int.reduceBEq, Int.reduceBNe, Int.reduceLT, Zu, Ya, tup, tyf])
    clear hN17
    try clear N17
    refine Yc fun N18 hN18 => ?_
    simp (maxSteps := 2000000) only [s88, ↓Za, ↓Zn, ↓Zr, ↓Ze, ↓Zj, ↓Zs, ↓Zg, ↓Zh, ↓Zf, ↓Zb, ↓Zc, ↓vdn, vup, Zm, Zk, Zl, Zi, Zo, List.map_cons, List.map_nil, cond_true, cond_false, aop, Zv, Zq, Zp, ev, sput, Zt, Zz, Yb, unK, Zd, Zw, Nat.reduceBEq, Nat.reduceAdd, Int.reduceBEq, Int.reduceBNe, Int.reduceLT, Zu, Ya, tup, tyf]
    refine hQ2 _ _ _ (hQ _ _ _ ?_)
    simp (maxSteps := 2000000) only [s88, ↓Za, ↓Zn, ↓Zr, ↓Ze, ↓Zj, ↓Zs, ↓Zg, ↓Zh, ↓Zf, ↓Zb, ↓Zc, ↓vdn, vup, Zm, Zk, Zl, Zi, Zo, List.map_cons, List.map_nil, cond_true, cond_false, aop, Zv, Zq, Zp, ev, sput, Zt, Zz, Yb, unK, Zd, Zw, Nat.reduceBEq, Nat.reduceAdd, Int.reduceBEq, Int.reduceBNe, Int.reduceLT, Zu, Ya, tup, tyf, if_true]
    refine hZ [(0, v), (2, .int .i64 0), (3, .int .i64 0)] _ _ ?_ (by simp (maxSteps := 2000000) only [↓Za, ↓Zn, ↓Zr, ↓Ze, ↓Zj, ↓Zs, ↓Zg, ↓Zh, ↓Zf, ↓Zb, ↓Zc, ↓vdn, vup, Zm, Zk, Zl, Zi, Zo, List.map_cons, List.map_nil, cond_true, cond_false, aop, Zv, Zq, Zp, ev, sput, Zt, Zz, Yb, unK, Zd, Zw, Nat.reduceBEq, Nat.reduceAdd, Int.reduceBEq, Int.reduceBNe, Int.reduceLT, Zu, Ya, tup, tyf])
    clear hZ
    try clear Z
    have e0 : x = 0 := hz 0 (by omega)
    have e1 : y = 0 := hz 1 (by omega)
    refine Yn ?_
    simp (maxSteps := 2000000) only [s88, ↓Za, ↓Zn, ↓Zr, ↓Ze, ↓Zj, ↓Zs, ↓Zg, ↓Zh, ↓Zf, ↓Zb, ↓Zc, ↓vdn, vup, Zm, Zk, Zl, Zi, Zo, List.map_cons, List.map_nil, cond_true, cond_false, aop, Zv, Zq, Zp, ev, sput, Zt, Zz, Yb, unK, Zd, Zw, Nat.reduceBEq, Nat.reduceAdd, Int.reduceBEq, Int.reduceBNe, Int.reduceLT, Zu, Ya, tup, tyf, e0, e1, if_true]

/-- The order of sets: more elements first, then the lesser. -/
def cmpS (a b : Nat) : Int := if ((Am.bits b).length : Int) - (Am.bits a).length = 0 then (a : Int) - b else ((Am.bits b).length : Int) - (Am.bits a).length
theorem bits_le64 (s : Nat) : (Am.bits s).length ≤ 64 := by
  have := List.length_filter_le (fun i => s.testBit i) (List.range 64)
  rwa [List.length_range] at this
theorem s87_callW [Tabs Tryd.prog] {args : List Value} {h : Zy} {Q : Value → Zy → Prop} (hsz : args.length ≤ 15) (hk : AWS Tryd.prog 15 s87 (Zu Tryd.prog [.tmp 4] Q) (Zp 0 args) h) : ACall Tryd.prog 87 args h Q :=
  acall_w Tryd.func87 rfl (enters_of Tryd.func87 (by kernel_rfl) rfl) rfl rfl (by decide) s87_strip s87_ok hsz hk
theorem cmpS_call [Tabs prog] {h : Zy} {a b : Nat} (ha : a < 256) (hb : b < 256) : Vn prog 87 [Zx (a : Nat), Zx (b : Nat)] h (Zx (cmpS a b)) := by
  refine ACall.forget (Low.int _ _) ?_
  have l1 := bits_le64 a
  have l2 := bits_le64 b
  refine s87_callW (by simp) ?_
  simp only [s87]
  refine Yc fun N19 hN19 => ?_
  simp (maxSteps := 2000000) only [s87, ↓Za, ↓Zn, ↓Zr, ↓Ze, ↓Zj, ↓Zs, ↓Zg, ↓Zh, ↓Zf, ↓Zb, ↓Zc, ↓vdn, vup, Zm, Zk, Zl, Zi, Zo, List.map_cons, List.map_nil, cond_true, cond_false, aop, Zv, Zq, Zp, ev, sput, Zt, Zz, Yb, unK, Zd, Zw, Nat.reduceBEq, Nat.reduceAdd, Int.reduceBEq, Int.reduceBNe, Int.reduceLT, Zu, Ya, tup, tyf]
  refine hN19 [(0, Zx (a : Nat)), (1, Zx (b : Nat)), (4, .int .i64 0)] _ _ ?_ (by simp (maxSteps := 2000000) only [↓Za, ↓Zn, ↓Zr, ↓Ze, ↓Zj, ↓Zs, ↓Zg, ↓Zh, ↓Zf, ↓Zb, ↓Zc, ↓vdn, vup, Zm, Zk, Zl, Zi, Zo, List.map_cons, List.map_nil, cond_true, cond_false, aop, Zv, Zq, Zp, ev, sput, Zt, Zz, Yb, unK, Zd, Zw, Nat.reduceBEq, Nat.reduceAdd, Int.reduceBEq, Int.reduceBNe, Int.reduceLT, Zu, Ya, tup, tyf])
  clear hN19
  try clear N19
  refine Yn ?_
  simp (maxSteps := 2000000) only [s87, ↓Za, ↓Zn, ↓Zr, ↓Ze, ↓Zj, ↓Zs, ↓Zg, ↓Zh, ↓Zf, ↓Zb, ↓Zc, ↓vdn, vup, Zm, Zk, Zl, Zi, Zo, List.map_cons, List.map_nil, cond_true, cond_false, aop, Zv, Zq, Zp, ev, sput, Zt, Zz, Yb, unK, Zd, Zw, Nat.reduceBEq, Nat.reduceAdd, Int.reduceBEq, Int.reduceBNe, Int.reduceLT, Zu, Ya, tup, tyf, Xh, List.nil_append, List.append_nil, List.toList_toArray, List.cons_append]
  refine (cntb_call hb).mono ?_
  rintro _ h ⟨rfl, rfl⟩
  refine (cntb_call ha).mono ?_
  rintro _ h ⟨rfl, rfl⟩
  have s1 : subV .i64 (((Am.bits b).length : Nat) : Int) (((Am.bits a).length : Nat) : Int) = ((Am.bits b).length : Int) - (Am.bits a).length := subV_id (by omega) (by omega)
  have s2 : subV .i64 ((a : Nat) : Int) ((b : Nat) : Int) = (a : Int) - b := subV_id (by omega) (by omega)
  try simp (maxSteps := 2000000) only [s87, ↓Za, ↓Zn, ↓Zr, ↓Ze, ↓Zj, ↓Zs, ↓Zg, ↓Zh, ↓Zf, ↓Zb, ↓Zc, ↓vdn, vup, Zm, Zk, Zl, Zi, Zo, List.map_cons, List.map_nil, cond_true, cond_false, aop, Zv, Zq, Zp, ev, sput, Zt, Zz, Yb, unK, Zd, Zw, Nat.reduceBEq, Nat.reduceAdd, Int.reduceBEq, Int.reduceBNe, Int.reduceLT, Zu, Ya, tup, tyf, s1, s2, List.map_toArray, lit2, Xh, List.nil_append, List.append_nil, List.toList_toArray, List.cons_append]
  refine (or_call litSl).mono ?_
  rintro _ _ ⟨rfl, rfl⟩
  simp (maxSteps := 2000000) only [s87, ↓Za, ↓Zn, ↓Zr, ↓Ze, ↓Zj, ↓Zs, ↓Zg, ↓Zh, ↓Zf, ↓Zb, ↓Zc, ↓vdn, vup, Zm, Zk, Zl, Zi, Zo, List.map_cons, List.map_nil, cond_true, cond_false, aop, Zv, Zq, Zp, ev, sput, Zt, Zz, Yb, unK, Zd, Zw, Nat.reduceBEq, Nat.reduceAdd, Int.reduceBEq, Int.reduceBNe, Int.reduceLT, Zu, Ya, tup, tyf, cmpS]
  exact Ext.app _ _ _

/-- Which of the first k is the least. -/
structure MinI (L : List Nat) (k m : Nat) : Prop where
  at_ : ∃ a, a < k ∧ L.getD a 0 = m ∧ ∀ b, b < a → (Am.bits (L.getD b 0)).length < (Am.bits m).length
  le : ∀ b, b < k → (Am.bits (L.getD b 0)).length ≤ (Am.bits m).length
theorem MinI.step {L : List Nat} {k m : Nat} (h : MinI L k m) (hs : ∀ a b, a < b → b < L.length → L.getD a 0 < L.getD b 0) (hk : k < L.length) : (cmpS (L.getD k 0) m < 0 → MinI L (k + 1) (L.getD k 0)) ∧ (¬ cmpS (L.getD k 0) m < 0 → MinI L (k + 1) m) := by
  obtain ⟨⟨a, ha, ham, hb⟩, hle⟩ := h
  have hlt : m < L.getD k 0 := by rw [← ham]; exact hs a k ha hk
  have hc : cmpS (L.getD k 0) m < 0 ↔ (Am.bits m).length < (Am.bits (L.getD k 0)).length := by
    rw [cmpS]; split <;> omega
  constructor
  · intro h1
    have h2 := hc.1 h1
    refine ⟨⟨k, by omega, rfl, fun b hb' => ?_⟩, fun b hb' => ?_⟩
    · have := hle b hb'; omega
    · by_cases he : b = k
      · rw [he]; exact Nat.le_refl _
      · have := hle b (by omega); omega
  · intro h1
    have h2 : ¬ (Am.bits m).length < (Am.bits (L.getD k 0)).length := fun h => h1 (hc.2 h)
    refine ⟨⟨a, by omega, ham, hb⟩, fun b hb' => ?_⟩
    by_cases he : b = k
    · rw [he]; omega
    · exact hle b (by omega)
theorem setsL_sorted (o : List Int) (p : Nat → Bool) : (setsL o p).Pairwise (· < ·) := (List.pairwise_lt_range).filter _
theorem pw_get {L : List Nat} (h : L.Pairwise (· < ·)) {a b : Nat} (hab : a < b) (hb : b < L.length) : L.getD a 0 < L.getD b 0 := by
  rw [List.getD, List.getD, List.getElem?_eq_getElem hb, List.getElem?_eq_getElem (show a < L.length by omega)]
  exact List.pairwise_iff_getElem.1 h a b _ _ hab
theorem mem_setsL {o : List Int} {p : Nat → Bool} {s : Nat} : s ∈ setsL o p ↔ s < 2 ^ o.length ∧ p s = true := by rw [setsL, List.mem_filter, List.mem_range]
theorem getD_memN {L : List Nat} {a : Nat} (h : a < L.length) : L.getD a 0 ∈ L := by rw [List.getD, List.getElem?_eq_getElem h]; exact List.getElem_mem h
theorem minI_anti {o : List Int} {m : Nat} (hp : 0 < 2 ^ o.length) (h : MinI (setsL o fun s => uni o s true) (setsL o fun s => uni o s true).length m) : m = Xe o := by
  obtain ⟨L, hL⟩ : ∃ L, L = setsL o fun s => uni o s true := ⟨_, rfl⟩
  have hs := setsL_sorted o fun s => uni o s true
  rw [← hL] at h hs
  have hm : ∀ s, s ∈ L ↔ s < 2 ^ o.length ∧ uni o s true = true := fun s => by rw [hL]; exact mem_setsL
  obtain ⟨⟨a, ha, ham, hb⟩, hle⟩ := h
  obtain ⟨m1, m2, m3, m4⟩ := antiTo_spec o (2 ^ o.length) hp
  have hM : antiTo o (2 ^ o.length) = Xe o := rfl
  rw [hM] at m1 m2 m3 m4
  have hmL := (hm _).1 (getD_memN ha)
  rw [ham] at hmL
  obtain ⟨c, hc, hcm⟩ := List.mem_iff_getElem.1 ((hm _).2 ⟨m1, m2⟩)
  have hcg : L.getD c 0 = Xe o := by rw [List.getD, List.getElem?_eq_getElem hc, hcm]; rfl
  have e1 := hle c hc
  rw [hcg] at e1
  have e2 := m3 m hmL.1 hmL.2
  rcases Nat.lt_trichotomy m (Xe o) with h1 | h1 | h1
  · have := m4 m h1 hmL.2; omega
  · exact h1
  · exfalso
    rcases Nat.lt_trichotomy a c with h2 | h2 | h2
    · have := pw_get hs h2 hc; rw [ham, hcg] at this; omega
    · rw [h2, hcg] at ham; omega
    · have := hb c h2; rw [hcg] at this; omega

theorem s86_callW [Tabs Tryd.prog] {args : List Value} {h : Zy} {Q : Value → Zy → Prop} (hsz : args.length ≤ 33) (hk : AWS Tryd.prog 33 s86 (Zu Tryd.prog [.tmp 4] Q) (Zp 0 args) h) : ACall Tryd.prog 86 args h Q :=
  acall_w Tryd.func86 rfl (enters_of Tryd.func86 (by kernel_rfl) rfl) rfl rfl (by decide) s86_strip s86_ok hsz hk
theorem minS_call [Tabs prog] {h : Zy} {v : Value} {L : List Nat} (hv : IntSl h v (iL L)) (hs : L.Pairwise (· < ·)) (hx : ∀ x ∈ L, x < 256) (h0 : 0 < L.length) (hl : L.length < 9223372036854775807) : ACall prog 86 [v, .func (.func 87) #[] #[]] h fun r h' => h' = h ∧ ∃ m, r = Zx (m : Nat) ∧ MinI L L.length m := by
  have hlen : (iL L).length = L.length := iL_len L
  have n1 : ¬ ((L.length : Nat) : Int) < 1 := by omega
  have hget : ∀ i, i < L.length → L.getD i 0 < 256 := fun i hi => hx _ (getD_memN hi)
  have hi0 : ∀ K : Value → Prop, Yr prog 22 v (.int .i64 0) K = K (elemP v 1 0) := fun K => by
    have := hv.idx Wq Xx (k := .i64) (show 0 < (iL L).length by rw [hlen]; exact h0) K
    simpa using this
  refine s86_callW (by simp) ?_
  simp only [s86]
  refine Yc fun N20 hN20 => ?_
  simp (maxSteps := 2000000) only [s86, ↓Za, ↓Zn, ↓Zr, ↓Ze, ↓Zj, ↓Zs, ↓Zg, ↓Zh, ↓Zf, ↓Zb, ↓Zc, ↓vdn, vup, Zm, Zk, Zl, Zi, Zo, List.map_cons, List.map_nil, cond_true, cond_false, aop, Zv, Zq, Zp, ev, sput, Zt, Zz, Yb, unK, Zd, Zw, Nat.reduceBEq, Nat.reduceAdd, Int.reduceBEq, Int.reduceBNe, Int.reduceLT, Zu, Ya, tup, tyf]
  refine hN20 [(0, v), (1, .func (.func 87) #[] #[]), (4, .int .i64 0)] _ _ ?_ (by simp (maxSteps := 2000000) only [↓Za, ↓Zn, ↓Zr, ↓Ze, ↓Zj, ↓Zs, ↓Zg, ↓Zh, ↓Zf, ↓Zb, ↓Zc, ↓vdn, vup, Zm, Zk, Zl, Zi, Zo, List.map_cons, List.map_nil, cond_true, cond_false, aop, Zv, Zq, Zp, ev, sput, Zt, Zz, Yb, unK, Zd, Zw, Nat.reduceBEq, Nat.reduceAdd, Int.reduceBEq, Int.reduceBNe, Int.reduceLT, Zu, Ya, tup, tyf])
  clear hN20
  try clear N20
  refine Yh fun A hA => ?_
  refine Yc fun N21 hN21 => ?_
  simp (maxSteps := 2000000) only [s86, ↓Za, ↓Zn, ↓Zr, ↓Ze, ↓Zj, ↓Zs, ↓Zg, ↓Zh, ↓Zf, ↓Zb, ↓Zc, ↓vdn, vup, Zm, Zk, Zl, Zi, Zo, List.map_cons, List.map_nil, cond_true, cond_false, aop, Zv, Zq, Zp, ev, sput, Zt, Zz, Yb, unK, Zd, Zw, Nat.reduceBEq, Nat.reduceAdd, Int.reduceBEq, Int.reduceBNe, Int.reduceLT, Zu, Ya, tup, tyf, hv.len, hlen, n1]
  refine hN21 [(0, v), (1, .func (.func 87) #[] #[]), (4, .int .i64 0), (9, .bool false)] _ _ ?_ (by simp (maxSteps := 2000000) only [↓Za, ↓Zn, ↓Zr, ↓Ze, ↓Zj, ↓Zs, ↓Zg, ↓Zh, ↓Zf, ↓Zb, ↓Zc, ↓vdn, vup, Zm, Zk, Zl, Zi, Zo, List.map_cons, List.map_nil, cond_true, cond_false, aop, Zv, Zq, Zp, ev, sput, Zt, Zz, Yb, unK, Zd, Zw, Nat.reduceBEq, Nat.reduceAdd, Int.reduceBEq, Int.reduceBNe, Int.reduceLT, Zu, Ya, tup, tyf])
  clear hN21
  try clear N21
  refine Xt rfl ?_
  refine Yn ?_
  simp (maxSteps := 2000000) only [s86, ↓Za, ↓Zn, ↓Zr, ↓Ze, ↓Zj, ↓Zs, ↓Zg, ↓Zh, ↓Zf, ↓Zb, ↓Zc, ↓vdn, vup, Zm, Zk, Zl, Zi, Zo, List.map_cons, List.map_nil, cond_true, cond_false, aop, Zv, Zq, Zp, ev, sput, Zt, Zz, Yb, unK, Zd, Zw, Nat.reduceBEq, Nat.reduceAdd, Int.reduceBEq, Int.reduceBNe, Int.reduceLT, Zu, Ya, tup, tyf]
  refine hA [(0, v), (1, .func (.func 87) #[] #[]), (4, .int .i64 0)] _ _ ?_ (by simp (maxSteps := 2000000) only [↓Za, ↓Zn, ↓Zr, ↓Ze, ↓Zj, ↓Zs, ↓Zg, ↓Zh, ↓Zf, ↓Zb, ↓Zc, ↓vdn, vup, Zm, Zk, Zl, Zi, Zo, List.map_cons, List.map_nil, cond_true, cond_false, aop, Zv, Zq, Zp, ev, sput, Zt, Zz, Yb, unK, Zd, Zw, Nat.reduceBEq, Nat.reduceAdd, Int.reduceBEq, Int.reduceBNe, Int.reduceLT, Zu, Ya, tup, tyf])
  clear hA
  try clear A
  refine Yc fun N22 hN22 => ?_
  simp (maxSteps := 2000000) only [s86, ↓Za, ↓Zn, ↓Zr, ↓Ze, ↓Zj, ↓Zs, ↓Zg, ↓Zh, ↓Zf, ↓Zb, ↓Zc, ↓vdn, vup, Zm, Zk, Zl, Zi, Zo, List.map_cons, List.map_nil, cond_true, cond_false, aop, Zv, Zq, Zp, ev, sput, Zt, Zz, Yb, unK, Zd, Zw, Nat.reduceBEq, Nat.reduceAdd, Int.reduceBEq, Int.reduceBNe, Int.reduceLT, Zu, Ya, tup, tyf, hi0, hv.load Yv (show 0 < (iL L).length by rw [hlen]; exact h0), iL_get]
  refine hN22 [(0, v), (1, .func (.func 87) #[] #[]), (4, .int .i64 0), (5, Zx (L.getD 0 0 : Nat))] _ _ ?_ (by simp (maxSteps := 2000000) only [↓Za, ↓Zn, ↓Zr, ↓Ze, ↓Zj, ↓Zs, ↓Zg, ↓Zh, ↓Zf, ↓Zb, ↓Zc, ↓vdn, vup, Zm, Zk, Zl, Zi, Zo, List.map_cons, List.map_nil, cond_true, cond_false, aop, Zv, Zq, Zp, ev, sput, Zt, Zz, Yb, unK, Zd, Zw, Nat.reduceBEq, Nat.reduceAdd, Int.reduceBEq, Int.reduceBNe, Int.reduceLT, Zu, Ya, tup, tyf])
  clear hN22
  try clear N22
  refine Yh fun Z hZ => ?_
  refine Yc fun N23 hN23 => ?_
  simp (maxSteps := 2000000) only [s86, ↓Za, ↓Zn, ↓Zr, ↓Ze, ↓Zj, ↓Zs, ↓Zg, ↓Zh, ↓Zf, ↓Zb, ↓Zc, ↓vdn, vup, Zm, Zk, Zl, Zi, Zo, List.map_cons, List.map_nil, cond_true, cond_false, aop, Zv, Zq, Zp, ev, sput, Zt, Zz, Yb, unK, Zd, Zw, Nat.reduceBEq, Nat.reduceAdd, Int.reduceBEq, Int.reduceBNe, Int.reduceLT, Zu, Ya, tup, tyf]
  refine hN23 [(0, v), (1, .func (.func 87) #[] #[]), (4, .int .i64 0), (5, Zx (L.getD 0 0 : Nat)), (6, .int .i64 1)] _ _ ?_ (by simp (maxSteps := 2000000) only [↓Za, ↓Zn, ↓Zr, ↓Ze, ↓Zj, ↓Zs, ↓Zg, ↓Zh, ↓Zf, ↓Zb, ↓Zc, ↓vdn, vup, Zm, Zk, Zl, Zi, Zo, List.map_cons, List.map_nil, cond_true, cond_false, aop, Zv, Zq, Zp, ev, sput, Zt, Zz, Yb, unK, Zd, Zw, Nat.reduceBEq, Nat.reduceAdd, Int.reduceBEq, Int.reduceBNe, Int.reduceLT, Zu, Ya, tup, tyf])
  clear hN23
  try clear N23
  refine Ym ?_
  refine Yl fun Q hQ => ?_
  refine Wc (γ := Nat × Nat) (fun g => 1 ≤ g.1 ∧ g.1 ≤ L.length ∧ MinI L g.1 g.2) (fun g => ([(0, v), (1, .func (.func 87) #[] #[]), (4, .int .i64 0), (5, Zx (g.2 : Nat)), (6, Zx (g.1 : Nat))], h)) (fun g => L.length - g.1) (1, L.getD 0 0) ⟨Nat.le_refl _, h0, ⟨⟨0, by omega, rfl, fun b hb => absurd hb (Nat.not_lt_zero b)⟩, fun b hb => by rw [show b = 0 by omega]; exact Nat.le_refl _⟩⟩ (by simp (maxSteps := 2000000) only [↓Za, ↓Zn, ↓Zr, ↓Ze, ↓Zj, ↓Zs, ↓Zg, ↓Zh, ↓Zf, ↓Zb, ↓Zc, ↓vdn, vup, Zm, Zk, Zl, Zi, Zo, List.map_cons, List.map_nil, cond_true, cond_false, aop, Zv, Zq, Zp, ev, sput, Zt, Zz, Yb, unK, Zd, Zw, Nat.reduceBEq, Nat.reduceAdd, Int.reduceBEq, Int.reduceBNe, Int.reduceLT, Zu, Ya, tup, tyf, Int.natCast_one]) rfl ?_
  rintro ⟨k, m⟩ ⟨hk1, hk, hm⟩
  simp only at hk1 hk hm
  refine Yl fun Q2 hQ2 => ?_
  simp only [l86_0]
  by_cases hin : (k : Int) < L.length
  · have hk' : k < L.length := by omega
    have hk2 : k < (iL L).length := by rw [hlen]; exact hk'
    obtain ⟨hst1, hst2⟩ := hm.step (fun a b => pw_get hs) hk'
    have hm256 : m < 256 := by
      obtain ⟨a, ha, ham, _⟩ := hm.at_
      rw [← ham]; exact hget a (by omega)
    refine Yh fun C hC => ?_
    refine Yc fun N24 hN24 => ?_
    simp (maxSteps := 2000000) only [s86, ↓Za, ↓Zn, ↓Zr, ↓Ze, ↓Zj, ↓Zs, ↓Zg, ↓Zh, ↓Zf, ↓Zb, ↓Zc, ↓vdn, vup, Zm, Zk, Zl, Zi, Zo, List.map_cons, List.map_nil, cond_true, cond_false, aop, Zv, Zq, Zp, ev, sput, Zt, Zz, Yb, unK, Zd, Zw, Nat.reduceBEq, Nat.reduceAdd, Int.reduceBEq, Int.reduceBNe, Int.reduceLT, Zu, Ya, tup, tyf, hv.len, hlen, hin]
    refine hN24 [(0, v), (1, .func (.func 87) #[] #[]), (4, .int .i64 0), (5, Zx (m : Nat)), (6, Zx (k : Nat)), (17, .bool true)] _ _ ?_ (by simp (maxSteps := 2000000) only [↓Za, ↓Zn, ↓Zr, ↓Ze, ↓Zj, ↓Zs, ↓Zg, ↓Zh, ↓Zf, ↓Zb, ↓Zc, ↓vdn, vup, Zm, Zk, Zl, Zi, Zo, List.map_cons, List.map_nil, cond_true, cond_false, aop, Zv, Zq, Zp, ev, sput, Zt, Zz, Yb, unK, Zd, Zw, Nat.reduceBEq, Nat.reduceAdd, Int.reduceBEq, Int.reduceBNe, Int.reduceLT, Zu, Ya, tup, tyf])
    clear hN24
    try clear N24
    refine Vf rfl ?_
    refine Yn ?_
    simp (maxSteps := 2000000) only [s86, ↓Za, ↓Zn, ↓Zr, ↓Ze, ↓Zj, ↓Zs, ↓Zg, ↓Zh, ↓Zf, ↓Zb, ↓Zc, ↓vdn, vup, Zm, Zk, Zl, Zi, Zo, List.map_cons, List.map_nil, cond_true, cond_false, aop, Zv, Zq, Zp, ev, sput, Zt, Zz, Yb, unK, Zd, Zw, Nat.reduceBEq, Nat.reduceAdd, Int.reduceBEq, Int.reduceBNe, Int.reduceLT, Zu, Ya, tup, tyf]
    refine hC [(0, v), (1, .func (.func 87) #[] #[]), (4, .int .i64 0), (5, Zx (m : Nat)), (6, Zx (k : Nat))] _ _ ?_ (by simp (maxSteps := 2000000) only [↓Za, ↓Zn, ↓Zr, ↓Ze, ↓Zj, ↓Zs, ↓Zg, ↓Zh, ↓Zf, ↓Zb, ↓Zc, ↓vdn, vup, Zm, Zk, Zl, Zi, Zo, List.map_cons, List.map_nil, cond_true, cond_false, aop, Zv, Zq, Zp, ev, sput, Zt, Zz, Yb, unK, Zd, Zw, Nat.reduceBEq, Nat.reduceAdd, Int.reduceBEq, Int.reduceBNe, Int.reduceLT, Zu, Ya, tup, tyf])
    clear hC
    try clear C
    refine Yh fun B hB => ?_
    refine Ym ?_
    refine Yc fun N25 hN25 => ?_
    simp (maxSteps := 2000000) only [s86, ↓Za, ↓Zn, ↓Zr, ↓Ze, ↓Zj, ↓Zs, ↓Zg, ↓Zh, ↓Zf, ↓Zb, ↓Zc, ↓vdn, vup, Zm, Zk, Zl, Zi, Zo, List.map_cons, List.map_nil, cond_true, cond_false, aop, Zv, Zq, Zp, ev, sput, Zt, Zz, Yb, unK, Zd, Zw, Nat.reduceBEq, Nat.reduceAdd, Int.reduceBEq, Int.reduceBNe, Int.reduceLT, Zu, Ya, tup, tyf, Xh, List.nil_append, List.append_nil, List.toList_toArray, List.cons_append, hv.idx Wq Xx hk2, hv.load Yv hk2, iL_get]
    refine (cmpS_call (hget k hk') hm256).mono ?_
    rintro _ h ⟨rfl, rfl⟩
    by_cases hc : cmpS (L.getD k 0) m < 0
    · simp (maxSteps := 2000000) only [s86, ↓Za, ↓Zn, ↓Zr, ↓Ze, ↓Zj, ↓Zs, ↓Zg, ↓Zh, ↓Zf, ↓Zb, ↓Zc, ↓vdn, vup, Zm, Zk, Zl, Zi, Zo, List.map_cons, List.map_nil, cond_true, cond_false, aop, Zv, Zq, Zp, ev, sput, Zt, Zz, Yb, unK, Zd, Zw, Nat.reduceBEq, Nat.reduceAdd, Int.reduceBEq, Int.reduceBNe, Int.reduceLT, Zu, Ya, tup, tyf, decide_eq_true hc]
      refine hN25 [(0, v), (1, .func (.func 87) #[] #[]), (4, .int .i64 0), (5, Zx (m : Nat)), (6, Zx (k : Nat)), (27, .bool true)] _ _ ?_ (by simp (maxSteps := 2000000) only [↓Za, ↓Zn, ↓Zr, ↓Ze, ↓Zj, ↓Zs, ↓Zg, ↓Zh, ↓Zf, ↓Zb, ↓Zc, ↓vdn, vup, Zm, Zk, Zl, Zi, Zo, List.map_cons, List.map_nil, cond_true, cond_false, aop, Zv, Zq, Zp, ev, sput, Zt, Zz, Yb, unK, Zd, Zw, Nat.reduceBEq, Nat.reduceAdd, Int.reduceBEq, Int.reduceBNe, Int.reduceLT, Zu, Ya, tup, tyf])
      clear hN25
      try clear N25
      refine Vf rfl ?_
      refine Yn ?_
      simp (maxSteps := 2000000) only [s86, ↓Za, ↓Zn, ↓Zr, ↓Ze, ↓Zj, ↓Zs, ↓Zg, ↓Zh, ↓Zf, ↓Zb, ↓Zc, ↓vdn, vup, Zm, Zk, Zl, Zi, Zo, List.map_cons, List.map_nil, cond_true, cond_false, aop, Zv, Zq, Zp, ev, sput, Zt, Zz, Yb, unK, Zd, Zw, Nat.reduceBEq, Nat.reduceAdd, Int.reduceBEq, Int.reduceBNe, Int.reduceLT, Zu, Ya, tup, tyf, hv.idx Wq Xx hk2, hv.load Yv hk2, iL_get]
      refine hB [(0, v), (1, .func (.func 87) #[] #[]), (4, .int .i64 0), (5, Zx (L.getD k 0 : Nat)), (6, Zx (k : Nat))] _ _ ?_ (by simp (maxSteps := 2000000) only [↓Za, ↓Zn, ↓Zr, ↓Ze, ↓Zj, ↓Zs, ↓Zg, ↓Zh, ↓Zf, ↓Zb, ↓Zc, ↓vdn, vup, Zm, Zk, Zl, Zi, Zo, List.map_cons, List.map_nil, cond_true, cond_false, aop, Zv, Zq, Zp, ev, sput, Zt, Zz, Yb, unK, Zd, Zw, Nat.reduceBEq, Nat.reduceAdd, Int.reduceBEq, Int.reduceBNe, Int.reduceLT, Zu, Ya, tup, tyf])
      clear hB
      try clear B
      refine Yn ?_
      simp (maxSteps := 2000000) only [s86, ↓Za, ↓Zn, ↓Zr, ↓Ze, ↓Zj, ↓Zs, ↓Zg, ↓Zh, ↓Zf, ↓Zb, ↓Zc, ↓vdn, vup, Zm, Zk, Zl, Zi, Zo, List.map_cons, List.map_nil, cond_true, cond_false, aop, Zv, Zq, Zp, ev, sput, Zt, Zz, Yb, unK, Zd, Zw, Nat.reduceBEq, Nat.reduceAdd, Int.reduceBEq, Int.reduceBNe, Int.reduceLT, Zu, Ya, tup, tyf, add1 (show k < 9223372036854775807 by omega)]
      exact hQ2 _ _ _ ⟨(k + 1, L.getD k 0), ⟨by simp only; omega, hk', hst1 hc⟩, by simp only; omega, by simp (maxSteps := 2000000) only [↓Za, ↓Zn, ↓Zr, ↓Ze, ↓Zj, ↓Zs, ↓Zg, ↓Zh, ↓Zf, ↓Zb, ↓Zc, ↓vdn, vup, Zm, Zk, Zl, Zi, Zo, List.map_cons, List.map_nil, cond_true, cond_false, aop, Zv, Zq, Zp, ev, sput, Zt, Zz, Yb, unK, Zd, Zw, Nat.reduceBEq, Nat.reduceAdd, Int.reduceBEq, Int.reduceBNe, Int.reduceLT, Zu, Ya, tup, tyf], rfl⟩
    · simp (maxSteps := 2000000) only [s86, ↓Za, ↓Zn, ↓Zr, ↓Ze, ↓Zj, ↓Zs, ↓Zg, ↓Zh, ↓Zf, ↓Zb, ↓Zc, ↓vdn, vup, Zm, Zk, Zl, Zi, Zo, List.map_cons, List.map_nil, cond_true, cond_false, aop, Zv, Zq, Zp, ev, sput, Zt, Zz, Yb, unK, Zd, Zw, Nat.reduceBEq, Nat.reduceAdd, Int.reduceBEq, Int.reduceBNe, Int.reduceLT, Zu, Ya, tup, tyf, decide_eq_false hc]
      refine hN25 [(0, v), (1, .func (.func 87) #[] #[]), (4, .int .i64 0), (5, Zx (m : Nat)), (6, Zx (k : Nat)), (27, .bool false)] _ _ ?_ (by simp (maxSteps := 2000000) only [↓Za, ↓Zn, ↓Zr, ↓Ze, ↓Zj, ↓Zs, ↓Zg, ↓Zh, ↓Zf, ↓Zb, ↓Zc, ↓vdn, vup, Zm, Zk, Zl, Zi, Zo, List.map_cons, List.map_nil, cond_true, cond_false, aop, Zv, Zq, Zp, ev, sput, Zt, Zz, Yb, unK, Zd, Zw, Nat.reduceBEq, Nat.reduceAdd, Int.reduceBEq, Int.reduceBNe, Int.reduceLT, Zu, Ya, tup, tyf])
      clear hN25
      try clear N25
      refine Xt rfl ?_
      refine Yn ?_
      simp (maxSteps := 2000000) only [s86, ↓Za, ↓Zn, ↓Zr, ↓Ze, ↓Zj, ↓Zs, ↓Zg, ↓Zh, ↓Zf, ↓Zb, ↓Zc, ↓vdn, vup, Zm, Zk, Zl, Zi, Zo, List.map_cons, List.map_nil, cond_true, cond_false, aop, Zv, Zq, Zp, ev, sput, Zt, Zz, Yb, unK, Zd, Zw, Nat.reduceBEq, Nat.reduceAdd, Int.reduceBEq, Int.reduceBNe, Int.reduceLT, Zu, Ya, tup, tyf]
      refine hB [(0, v), (1, .func (.func 87) #[] #[]), (4, .int .i64 0), (5, Zx (m : Nat)), (6, Zx (k : Nat))] _ _ ?_ (by simp (maxSteps := 2000000) only [↓Za, ↓Zn, ↓Zr, ↓Ze, ↓Zj, ↓Zs, ↓Zg, ↓Zh, ↓Zf, ↓Zb, ↓Zc, ↓vdn, vup, Zm, Zk, Zl, Zi, Zo, List.map_cons, List.map_nil, cond_true, cond_false, aop, Zv, Zq, Zp, ev, sput, Zt, Zz, Yb, unK, Zd, Zw, Nat.reduceBEq, Nat.reduceAdd, Int.reduceBEq, Int.reduceBNe, Int.reduceLT, Zu, Ya, tup, tyf])
      clear hB
      try clear B
      refine Yn ?_
      simp (maxSteps := 2000000) only [s86, ↓Za, ↓Zn, ↓Zr, ↓Ze, ↓Zj, ↓Zs, ↓Zg, ↓Zh, ↓Zf, ↓Zb, ↓Zc, ↓vdn, vup, Zm, Zk, Zl, Zi, Zo, List.map_cons, List.map_nil, cond_true, cond_false, aop, Zv, Zq, Zp, ev, sput, Zt, Zz, Yb, unK, Zd, Zw, Nat.reduceBEq, Nat.reduceAdd, Int.reduceBEq, Int.reduceBNe, Int.reduceLT, Zu, Ya, tup, tyf, add1 (show k < 9223372036854775807 by omega)]
      exact hQ2 _ _ _ ⟨(k + 1, m), ⟨by simp only; omega, hk', hst2 hc⟩, by simp only; omega, by simp (maxSteps := 2000000) only [↓Za, ↓Zn, ↓Zr, ↓Ze, ↓Zj, ↓Zs, ↓Zg, ↓Zh, ↓Zf, ↓Zb, ↓Zc, ↓vdn, vup, Zm, Zk, Zl, Zi, Zo, List.map_cons, List.map_nil, cond_true, cond_false, aop, Zv, Zq, Zp, ev, sput, Zt, Zz, Yb, unK, Zd, Zw, Nat.reduceBEq, Nat.reduceAdd, Int.reduceBEq, Int.reduceBNe, Int.reduceLT, Zu, Ya, tup, tyf], rfl⟩
  · obtain rfl : k = L.length := by omega
    refine Yh fun C hC => ?_
    refine Yc fun N26 hN26 => ?_
    simp (maxSteps := 2000000) only [s86, ↓Za, ↓Zn, ↓Zr, ↓Ze, ↓Zj, ↓Zs, ↓Zg, ↓Zh, ↓Zf, ↓Zb, ↓Zc, ↓vdn, vup, Zm, Zk, Zl, Zi, Zo, List.map_cons, List.map_nil, cond_true, cond_false, aop, Zv, Zq, Zp, ev, sput, Zt, Zz, Yb, unK, Zd, Zw, Nat.reduceBEq, Nat.reduceAdd, Int.reduceBEq, Int.reduceBNe, Int.reduceLT, Zu, Ya, tup, tyf, hv.len, hlen, hin]
    refine hN26 [(0, v), (1, .func (.func 87) #[] #[]), (4, .int .i64 0), (5, Zx (m : Nat)), (6, Zx L.length), (17, .bool false)] _ _ ?_ (by simp (maxSteps := 2000000) only [↓Za, ↓Zn, ↓Zr, ↓Ze, ↓Zj, ↓Zs, ↓Zg, ↓Zh, ↓Zf, ↓Zb, ↓Zc, ↓vdn, vup, Zm, Zk, Zl, Zi, Zo, List.map_cons, List.map_nil, cond_true, cond_false, aop, Zv, Zq, Zp, ev, sput, Zt, Zz, Yb, unK, Zd, Zw, Nat.reduceBEq, Nat.reduceAdd, Int.reduceBEq, Int.reduceBNe, Int.reduceLT, Zu, Ya, tup, tyf])
    clear hN26
    try clear N26
    refine Xt rfl ?_
    refine Yn ?_
    simp (maxSteps := 2000000) only [s86, ↓Za, ↓Zn, ↓Zr, ↓Ze, ↓Zj, ↓Zs, ↓Zg, ↓Zh, ↓Zf, ↓Zb, ↓Zc, ↓vdn, vup, Zm, Zk, Zl, Zi, Zo, List.map_cons, List.map_nil, cond_true, cond_false, aop, Zv, Zq, Zp, ev, sput, Zt, Zz, Yb, unK, Zd, Zw, Nat.reduceBEq, Nat.reduceAdd, Int.reduceBEq, Int.reduceBNe, Int.reduceLT, Zu, Ya, tup, tyf]
    refine hQ2 _ _ _ (hQ _ _ _ ?_)
    simp (maxSteps := 2000000) only [s86, ↓Za, ↓Zn, ↓Zr, ↓Ze, ↓Zj, ↓Zs, ↓Zg, ↓Zh, ↓Zf, ↓Zb, ↓Zc, ↓vdn, vup, Zm, Zk, Zl, Zi, Zo, List.map_cons, List.map_nil, cond_true, cond_false, aop, Zv, Zq, Zp, ev, sput, Zt, Zz, Yb, unK, Zd, Zw, Nat.reduceBEq, Nat.reduceAdd, Int.reduceBEq, Int.reduceBNe, Int.reduceLT, Zu, Ya, tup, tyf, if_true]
    refine hZ [(0, v), (1, .func (.func 87) #[] #[]), (4, .int .i64 0), (5, Zx (m : Nat)), (17, .bool false)] _ _ ?_ (by simp (maxSteps := 2000000) only [↓Za, ↓Zn, ↓Zr, ↓Ze, ↓Zj, ↓Zs, ↓Zg, ↓Zh, ↓Zf, ↓Zb, ↓Zc, ↓vdn, vup, Zm, Zk, Zl, Zi, Zo, List.map_cons, List.map_nil, cond_true, cond_false, aop, Zv, Zq, Zp, ev, sput, Zt, Zz, Yb, unK, Zd, Zw, Nat.reduceBEq, Nat.reduceAdd, Int.reduceBEq, Int.reduceBNe, Int.reduceLT, Zu, Ya, tup, tyf])
    clear hZ
    try clear Z
    refine Yn ?_
    simp (maxSteps := 2000000) only [s86, ↓Za, ↓Zn, ↓Zr, ↓Ze, ↓Zj, ↓Zs, ↓Zg, ↓Zh, ↓Zf, ↓Zb, ↓Zc, ↓vdn, vup, Zm, Zk, Zl, Zi, Zo, List.map_cons, List.map_nil, cond_true, cond_false, aop, Zv, Zq, Zp, ev, sput, Zt, Zz, Yb, unK, Zd, Zw, Nat.reduceBEq, Nat.reduceAdd, Int.reduceBEq, Int.reduceBNe, Int.reduceLT, Zu, Ya, tup, tyf]
    exact ⟨m, rfl, hm⟩

theorem s84_callW [Tabs Tryd.prog] {args : List Value} {h : Zy} {Q : Value → Zy → Prop} (hsz : args.length ≤ 8) (hk : AWS Tryd.prog 8 s84 (Zu Tryd.prog [.tmp 3] Q) (Zp 0 args) h) : ACall Tryd.prog 84 args h Q :=
  acall_w Tryd.func84 rfl (enters_of Tryd.func84 (by kernel_rfl) rfl) rfl rfl (by decide) s84_strip s84_ok hsz hk
theorem anti1_call [BitTab prog 1] {h : Zy} {bo : Nat} {o : List Int} {s : Nat} (ho : ord o = true) (hs : s < 2 ^ o.length) (hb : h[bo]? = some (.cells (Wr o) 77 false)) : Vn prog 84 [Zx (s : Nat), .pointer (some ⟨bo, 0, none⟩)] h (.bool (uni o s true)) := by
  have hl := Xi ho
  have hp := pow6 hl.2
  have hpc := two_call (h := h) (s := s) (fn := 68) (first := #[ordV o]) (cap := #[]) (by omega) (fun i j => fr o i j == true) fun i j h' hi hj hji hE => by
    rw [show (fr o i j == true) = fr o i j by cases fr o i j <;> rfl]
    exact free_call ho (lt_bit hs hi) (lt_bit hs hj)
  rw [prB_uni hs hl.2] at hpc
  refine s84_callW (by simp) ?_
  refine Yn ?_
  simp (maxSteps := 2000000) only [s84, ↓Za, ↓Zn, ↓Zr, ↓Ze, ↓Zj, ↓Zs, ↓Zg, ↓Zh, ↓Zf, ↓Zb, ↓Zc, ↓vdn, vup, Zm, Zk, Zl, Zi, Zo, List.map_cons, List.map_nil, cond_true, cond_false, aop, Zv, Zq, Zp, ev, sput, Zt, Zz, Yb, unK, Zd, Zw, Nat.reduceBEq, Nat.reduceAdd, Int.reduceBEq, Int.reduceBNe, Int.reduceLT, Zu, Ya, tup, tyf, Xh, List.nil_append, List.append_nil, List.toList_toArray, List.cons_append, loadO hb Xn hl.2, List.map_toArray]
  refine (hpc).mono ?_
  rintro _ h ⟨rfl, rfl⟩
  simp (maxSteps := 2000000) only [s84, ↓Za, ↓Zn, ↓Zr, ↓Ze, ↓Zj, ↓Zs, ↓Zg, ↓Zh, ↓Zf, ↓Zb, ↓Zc, ↓vdn, vup, Zm, Zk, Zl, Zi, Zo, List.map_cons, List.map_nil, cond_true, cond_false, aop, Zv, Zq, Zp, ev, sput, Zt, Zz, Yb, unK, Zd, Zw, Nat.reduceBEq, Nat.reduceAdd, Int.reduceBEq, Int.reduceBNe, Int.reduceLT, Zu, Ya, tup, tyf]

/-- What Anti hands back. -/
def antiV (o : List Int) : Value := if ord o = true then .tuple #[Zx (Xe o : Nat), .int .i64 0] else .tuple #[.int .i64 0, .int .i64 2]
theorem anti_call [BitTab prog 1] {h : Zy} {v : Value} {o : List Int} (hv : IntSl h v o) (hl : o.length < 9223372036854775808) (hx : ∀ x ∈ o, -9223372036854775808 ≤ x ∧ x < 9223372036854775808) : Vn prog 48 [v] h (antiV o) := by
  have hlow : Low (antiV o) := by unfold antiV; split <;> exact .pair (.int _ _) (.int _ _)
  refine ACall.forget hlow ?_
  refine s48_call (by simp) ?_
  simp only [s48]
  simp (maxSteps := 2000000) only [s48, ↓Za, ↓Zn, ↓Zr, ↓Ze, ↓Zj, ↓Zs, ↓Zg, ↓Zh, ↓Zf, ↓Zb, ↓Zc, ↓vdn, vup, Zm, Zk, Zl, Zi, Zo, List.map_cons, List.map_nil, cond_true, cond_false, aop, Zv, Zq, Zp, ev, sput, Zt, Zz, Yb, unK, Zd, Zw, Nat.reduceBEq, Nat.reduceAdd, Int.reduceBEq, Int.reduceBNe, Int.reduceLT, Zu, Ya, tup, tyf, Xh, List.nil_append, List.append_nil, List.toList_toArray, List.cons_append]
  refine (read_call hv hl hx).mono ?_
  rintro _ g ⟨rfl, rfl⟩
  simp (maxSteps := 2000000) only [s48, ↓Za, ↓Zn, ↓Zr, ↓Ze, ↓Zj, ↓Zs, ↓Zg, ↓Zh, ↓Zf, ↓Zb, ↓Zc, ↓vdn, vup, Zm, Zk, Zl, Zi, Zo, List.map_cons, List.map_nil, cond_true, cond_false, aop, Zv, Zq, Zp, ev, sput, Zt, Zz, Yb, unK, Zd, Zw, Nat.reduceBEq, Nat.reduceAdd, Int.reduceBEq, Int.reduceBNe, Int.reduceLT, Zu, Ya, tup, tyf, Xz, Xc, zeroN, zero_77]
  rw [storeRd]
  obtain ⟨hE, hb⟩ := rdBox g o
  generalize hgl : g.length = gl at hE hb ⊢
  generalize (g ++ [Blk.cells (ordN 0) 77 false]).set gl (.cells (rdC o) 77 false) = G at hE hb ⊢
  cases ho : ord o with
  | false =>
    simp (maxSteps := 2000000) only [s48, ↓Za, ↓Zn, ↓Zr, ↓Ze, ↓Zj, ↓Zs, ↓Zg, ↓Zh, ↓Zf, ↓Zb, ↓Zc, ↓vdn, vup, Zm, Zk, Zl, Zi, Zo, List.map_cons, List.map_nil, cond_true, cond_false, aop, Zv, Zq, Zp, ev, sput, Zt, Zz, Yb, unK, Zd, Zw, Nat.reduceBEq, Nat.reduceAdd, Int.reduceBEq, Int.reduceBNe, Int.reduceLT, Zu, Ya, tup, tyf, ho]
    rw [antiV, ho]
    exact ⟨rfl, hE⟩
  | true =>
    have hln := Xi ho
    have hp := pow6 hln.2
    have hrd : rdC o = Wr o := if_pos hln
    rw [hrd] at hb
    simp (maxSteps := 2000000) only [s48, ↓Za, ↓Zn, ↓Zr, ↓Ze, ↓Zj, ↓Zs, ↓Zg, ↓Zh, ↓Zf, ↓Zb, ↓Zc, ↓vdn, vup, Zm, Zk, Zl, Zi, Zo, List.map_cons, List.map_nil, cond_true, cond_false, aop, Zv, Zq, Zp, ev, sput, Zt, Zz, Yb, unK, Zd, Zw, Nat.reduceBEq, Nat.reduceAdd, Int.reduceBEq, Int.reduceBNe, Int.reduceLT, Zu, Ya, tup, tyf, ho, loadO hb Xn hln.2, List.map_toArray, Xh, List.nil_append, List.append_nil, List.toList_toArray, List.cons_append]
    refine (sets_call ho (fun s => uni o s true) fun s h' hs hE' => ?_).mono ?_
    · exact anti1_call ho hs ((hE'.2 _ (Yk hb) id).trans hb)
    rintro r H ⟨hr, hEH, _⟩
    have hm0 : 0 ∈ setsL o fun s => uni o s true := mem_setsL.2 ⟨by omega, by simp [uni]⟩
    have hfl := filter_len (fun s => uni o s true) (2 ^ o.length)
    refine (minS_call hr.int (setsL_sorted _ _) (fun x hx => by have := (mem_setsL.1 hx).1; omega) (List.length_pos_of_mem hm0) (by rw [setsL]; omega)).mono ?_
    rintro _ _ ⟨rfl, m, rfl, hm⟩
    rw [minI_anti hp.2 hm, antiV, ho]
    simp (maxSteps := 2000000) only [s48, ↓Za, ↓Zn, ↓Zr, ↓Ze, ↓Zj, ↓Zs, ↓Zg, ↓Zh, ↓Zf, ↓Zb, ↓Zc, ↓vdn, vup, Zm, Zk, Zl, Zi, Zo, List.map_cons, List.map_nil, cond_true, cond_false, aop, Zv, Zq, Zp, ev, sput, Zt, Zz, Yb, unK, Zd, Zw, Nat.reduceBEq, Nat.reduceAdd, Int.reduceBEq, Int.reduceBNe, Int.reduceLT, Zu, Ya, tup, tyf]
    exact ⟨rfl, hE.trans hEH⟩
end Go.Proofs.Tryd.Am

namespace Go.Proofs.Tryd.Am
open Go.Am Ord
set_option maxRecDepth 100000
set_option maxHeartbeats 4000000

/-- A table of the fewest chains, the sets below s filled in. -/
structure TabI (o : List Int) (T : List Int) (s : Nat) : Prop where
  len : T.length = 2 ^ o.length
  get : ∀ t, t < s → T.getD t 0 = (fw o t : Nat)
theorem getD_setI {L : List Int} {s i : Nat} {x : Int} (hs : s < L.length) : (L.set s x).getD i 0 = if i = s then x else L.getD i 0 := by
  rw [List.getD, List.getElem?_set]
  by_cases h : s = i
  · subst h; simp [hs]
  · rw [if_neg h, if_neg (Ne.symm h)]; rfl
theorem TabI.put {o : List Int} {T : List Int} {s : Nat} (h : TabI o T s) (hs : s < 2 ^ o.length) (x : Int) : TabI o (T.set s x) s ∧ (T.set s x).getD s 0 = x :=
  ⟨⟨by rw [List.length_set, h.len], fun t ht => by rw [getD_setI (by rw [h.len]; exact hs), if_neg (by omega)]; exact h.get t ht⟩, by rw [getD_setI (by rw [h.len]; exact hs), if_pos rfl]⟩
theorem TabI.next {o : List Int} {T : List Int} {s : Nat} (h : TabI o T s) (hx : T.getD s 0 = (fw o s : Nat)) : TabI o T (s + 1) :=
  ⟨h.len, fun t ht => by
    by_cases he : t = s
    · rw [he, hx]
    · exact h.get t (by omega)⟩
/-- The best so far, over some first chains. -/
structure BstI (o : List Int) (s : Nat) (S : Nat → Prop) (x : Nat) : Prop where
  ge : fw o s ≤ x
  le : ∀ c, S c → okC o s c → x ≤ 1 + fw o (Wj s c)
theorem BstI.fin {o : List Int} {s x : Nat} {S : Nat → Prop} (h : BstI o s S x) (h0 : s ≠ 0) (hS : ∀ c, okC o s c → S c) : x = fw o s := by
  obtain ⟨c, hc, he⟩ := fw_first (o := o) h0
  have := h.le c (hS c hc) hc
  have := h.ge
  omega
theorem intSl_tab {h : Zy} {T : List Int} (b : Nat) {n : Nat} (hn : T.length = n) (hb : h[b]? = some (.ints T 3 false)) : IntSl h (.slice (some ⟨b, 0, none⟩) n n) T := by
  have := intSl_blk hb
  rwa [hn] at this

end Go.Proofs.Tryd.Am

namespace Go.Proofs.Tryd.Am
open Go.Am Ord
set_option maxRecDepth 100000
set_option maxHeartbeats 4000000

end Go.Proofs.Tryd.Am

namespace Go.Proofs.Tryd.Am
open Go.Am Ord
set_option maxRecDepth 100000
set_option maxHeartbeats 2000000

theorem mapR_getD {f : Nat → Int} {n k : Nat} (hk : k < n) : ((List.range n).map f).getD k 0 = f k := by
  rw [List.getD, List.getElem?_map, List.getElem?_range hk]; rfl
end Go.Proofs.Tryd.Am

namespace Ord

theorem filter_lt' {α : Type} {p q : α → Bool} : ∀ {l : List α}, (∀ x ∈ l, p x = true → q x = true) → (∃ x ∈ l, q x = true ∧ p x = false) → (l.filter p).length < (l.filter q).length
  | [], _, h => by obtain ⟨x, hx, _⟩ := h; cases hx
  | a :: l, h1, h2 => by
    have hle : ∀ {l : List α}, (∀ x ∈ l, p x = true → q x = true) → (l.filter p).length ≤ (l.filter q).length := fun {l} => by
      induction l with
      | nil => intro _; exact Nat.le_refl _
      | cons b l ih =>
        intro h
        have := ih fun x hx => h x (by simp [hx])
        have hb := h b (by simp)
        simp only [List.filter_cons]
        cases hp : p b <;> cases hq : q b <;> simp_all <;> omega
    have ht := h1 a (by simp)
    have hl := hle (l := l) fun x hx => h1 x (by simp [hx])
    obtain ⟨x, hx, hq, hp⟩ := h2
    simp only [List.filter_cons]
    rcases List.mem_cons.1 hx with rfl | hx
    · simp [hq, hp]; omega
    · have := filter_lt' (fun x hx => h1 x (by simp [hx])) ⟨x, hx, hq, hp⟩
      cases hpa : p a <;> cases hqa : q a <;> simp_all <;> omega
theorem filter_le' {α : Type} {p q : α → Bool} : ∀ {l : List α}, (∀ x ∈ l, p x = true → q x = true) → (l.filter p).length ≤ (l.filter q).length
  | [], _ => Nat.le_refl _
  | b :: l, h => by
    have := filter_le' (l := l) fun x hx => h x (by simp [hx])
    have hb := h b (by simp)
    simp only [List.filter_cons]
    cases hp : p b <;> cases hq : q b <;> simp_all <;> omega

/-- A line, told by a key. -/
structure Key (r : Nat → Nat → Bool) (S : List Nat) (K : Nat → Nat) : Prop where
  inj : ∀ i ∈ S, ∀ j ∈ S, K i = K j → i = j
  mono : ∀ i ∈ S, ∀ j ∈ S, r i j = true → K i < K j
/-- Lines that together show just what is above what. -/
structure Rlz (r : Nat → Nat → Bool) (S : List Nat) (Ks : List (Nat → Nat)) : Prop where
  key : ∀ K ∈ Ks, Key r S K
  rev : ∀ i ∈ S, ∀ j ∈ S, i ≠ j → r i j = false → ∃ K ∈ Ks, K j < K i
theorem Rlz.sub {r : Nat → Nat → Bool} {S T : List Nat} {Ks : List (Nat → Nat)} (h : Rlz r S Ks) (hs : ∀ i ∈ T, i ∈ S) : Rlz r T Ks :=
  ⟨fun K hK => ⟨fun i hi j hj => (h.key K hK).inj i (hs i hi) j (hs j hj), fun i hi j hj => (h.key K hK).mono i (hs i hi) j (hs j hj)⟩, fun i hi j hj => h.rev i (hs i hi) j (hs j hj)⟩

theorem bound_of (K : Nat → Nat) : ∀ S : List Nat, ∃ N, ∀ u ∈ S, K u < N
  | [] => ⟨0, fun _ h => by cases h⟩
  | a :: S => by
    obtain ⟨N, hN⟩ := bound_of K S
    refine ⟨max N (K a + 1), fun u hu => ?_⟩
    rcases List.mem_cons.1 hu with rfl | hu
    · omega
    · have := hN u hu; omega
theorem base_key {r : Nat → Nat → Bool} (h : Po r) {S : List Nat} (hS : S.Nodup) : ∃ K, Key r S K := by
  have hp := cnt_pos h (k := S.length) (S := S) rfl
  rw [← cnt_len] at hp
  obtain ⟨l, hl⟩ := List.exists_mem_of_ne_nil _ (List.ne_nil_of_length_pos hp)
  obtain ⟨h1, h2⟩ := (Vg h.irr rfl l).1 hl
  have hn := h1.nodup_iff.2 hS
  refine ⟨fun i => l.idxOf i, ⟨fun i hi j hj he => idx_inj (h1.mem_iff.2 hi) (h1.mem_iff.2 hj) he, fun i hi j hj hij => ?_⟩⟩
  rcases Nat.lt_or_ge (l.idxOf i) (l.idxOf j) with h3 | h3
  · exact h3
  · rcases Nat.lt_or_ge (l.idxOf j) (l.idxOf i) with h4 | h4
    · have := (bef_pw hn).1 h2 j (h1.mem_iff.2 hj) i (h1.mem_iff.2 hi) (by rw [bef]; exact decide_eq_true h4)
      rw [hij] at this; cases this
    · have := idx_inj (h1.mem_iff.2 hi) (h1.mem_iff.2 hj) (by omega)
      subst this
      rw [h.irr] at hij; cases hij

/-- **As many lines as chains suffice.** -/
theorem rlz_chains {r : Nat → Nat → Bool} (h : Po r) {S : List Nat} (hS : S.Nodup) {k : Nat} {f : Nat → Nat} (hf : Chn r S k f) : ∃ Ks, Rlz r S Ks ∧ Ks.length = k := by
  obtain ⟨B, hB⟩ := base_key h hS
  obtain ⟨N, hN⟩ := bound_of B S
  obtain ⟨lev, hlev⟩ : ∃ lev : Nat → Nat → Nat, lev = fun c u => (S.filter fun z => decide (f z = c) && (decide (z = u) || r z u)).length := ⟨_, rfl⟩
  have hm : ∀ c, ∀ u v, r u v = true → lev c u ≤ lev c v := fun c u v huv => by
    rw [hlev]
    refine filter_le' fun z _ hz => ?_
    simp only [Bool.and_eq_true, Bool.or_eq_true, decide_eq_true_eq] at hz ⊢
    refine ⟨hz.1, .inr ?_⟩
    rcases hz.2 with rfl | h2
    · exact huv
    · exact h.tr _ _ _ h2 huv
  have hmul : ∀ {a b x y : Nat}, a < b → x < N → a * N + x < b * N + y := fun {a b x y} hab hx => by
    have : (a + 1) * N ≤ b * N := Nat.mul_le_mul_right _ hab
    rw [Nat.succ_mul] at this
    omega
  refine ⟨(List.range k).map fun c u => lev c u * N + B u, ⟨fun K hK => ?_, fun i hi j hj hne hij => ?_⟩, by simp⟩
  · obtain ⟨c, _, rfl⟩ := List.mem_map.1 hK
    refine ⟨fun i hi j hj he => ?_, fun i hi j hj hij => ?_⟩
    · rcases Nat.lt_trichotomy (lev c i) (lev c j) with h1 | h1 | h1
      · have := hmul (y := B j) h1 (hN i hi); omega
      · rw [h1] at he; exact hB.inj i hi j hj (by omega)
      · have := hmul (y := B i) h1 (hN j hj); omega
    · have h1 := hm c i j hij
      have h2 := hB.mono i hi j hj hij
      rcases Nat.lt_or_ge (lev c i) (lev c j) with h3 | h3
      · exact hmul h3 (hN i hi)
      · have : lev c i = lev c j := by omega
        simp only [this]; omega
  · refine ⟨_, List.mem_map.2 ⟨f i, List.mem_range.2 (hf.lt i hi), rfl⟩, ?_⟩
    cases hji : r j i with
    | true =>
      have h1 := hm (f i) j i hji
      have h2 := hB.mono j hj i hi hji
      rcases Nat.lt_or_ge (lev (f i) j) (lev (f i) i) with h3 | h3
      · exact hmul h3 (hN j hj)
      · have : lev (f i) j = lev (f i) i := by omega
        simp only [this]; omega
    | false =>
      refine hmul ?_ (hN j hj)
      rw [hlev]
      refine filter_lt' (fun z hz hp => ?_) ⟨i, hi, by simp, by simp [hne, hij]⟩
      simp only [Bool.and_eq_true, Bool.or_eq_true, decide_eq_true_eq] at hp ⊢
      refine ⟨hp.1, ?_⟩
      rcases hf.ch z hz i hi hp.1 with h1 | h1 | h1
      · exact .inl h1
      · exact .inr h1
      · exfalso
        rcases hp.2 with rfl | h2
        · rw [hij] at h1; cases h1
        · rw [h.tr _ _ _ h1 h2] at hij; cases hij

/-- **An element more wants one line more.** -/
theorem rlz_insert {r : Nat → Nat → Bool} (h : Po r) {S : List Nat} {x : Nat} (hx : x ∉ S) {K : Nat → Nat} {Ks : List (Nat → Nat)} (hr : Rlz r S (K :: Ks)) : ∃ Ks', Rlz r (x :: S) Ks' ∧ Ks'.length = Ks.length + 2 := by
  obtain ⟨N, hN⟩ := bound_of K S
  have hK := hr.key K (by simp)
  have hne : ∀ u ∈ S, u ≠ x := fun u hu he => hx (he ▸ hu)
  obtain ⟨M1, hM1⟩ : ∃ M : Nat → Nat, M = fun u => if u = x then N else if r x u then N + 1 + K u else K u := ⟨_, rfl⟩
  obtain ⟨M2, hM2⟩ : ∃ M : Nat → Nat, M = fun u => if u = x then N else if r u x then K u else N + 1 + K u := ⟨_, rfl⟩
  have m1x : M1 x = N := by rw [hM1]; simp
  have m2x : M2 x = N := by rw [hM2]; simp
  have m1 : ∀ u ∈ S, M1 u = if r x u then N + 1 + K u else K u := fun u hu => by rw [hM1]; exact if_neg (hne u hu)
  have m2 : ∀ u ∈ S, M2 u = if r u x then K u else N + 1 + K u := fun u hu => by rw [hM2]; exact if_neg (hne u hu)
  obtain ⟨mx, hmx⟩ : ∃ mx : (Nat → Nat) → Nat, ∀ L, (∀ d ∈ S, r d x = true → L d + 1 ≤ mx L) ∧ (mx L = 0 ∨ ∃ d ∈ S, r d x = true ∧ mx L = L d + 1) := by
    suffices hh : ∀ L : Nat → Nat, ∃ m, (∀ d ∈ S, r d x = true → L d + 1 ≤ m) ∧ (m = 0 ∨ ∃ d ∈ S, r d x = true ∧ m = L d + 1) from ⟨fun L => Classical.choose (hh L), fun L => Classical.choose_spec (hh L)⟩
    intro L
    have : ∀ T : List Nat, ∃ m, (∀ d ∈ T, r d x = true → L d + 1 ≤ m) ∧ (m = 0 ∨ ∃ d ∈ T, r d x = true ∧ m = L d + 1) := fun T => by
      induction T with
      | nil => exact ⟨0, fun _ h => (by cases h), .inl rfl⟩
      | cons a T ih =>
        obtain ⟨m, h1, h2⟩ := ih
        by_cases ha : r a x = true ∧ m < L a + 1
        · refine ⟨L a + 1, fun d hd hdx => ?_, .inr ⟨a, by simp, ha.1, rfl⟩⟩
          rcases List.mem_cons.1 hd with rfl | hd
          · exact Nat.le_refl _
          · have := h1 d hd hdx; omega
        · refine ⟨m, fun d hd hdx => ?_, ?_⟩
          · rcases List.mem_cons.1 hd with rfl | hd
            · rcases Nat.lt_or_ge m (L d + 1) with h3 | h3
              · exact absurd ⟨hdx, h3⟩ ha
              · exact h3
            · exact h1 d hd hdx
          · rcases h2 with h2 | ⟨d, h2, h3⟩
            · exact .inl h2
            · exact .inr ⟨d, by simp [h2], h3⟩
    exact this S
  obtain ⟨ex, hex⟩ : ∃ ex : (Nat → Nat) → Nat → Nat, ex = fun L u => if u = x then 2 * mx L + 1 else 2 * (L u + 1) := ⟨_, rfl⟩
  have exx : ∀ L, ex L x = 2 * mx L + 1 := fun L => by rw [hex]; simp
  have exu : ∀ L, ∀ u ∈ S, ex L u = 2 * (L u + 1) := fun L u hu => by rw [hex]; exact if_neg (hne u hu)
  have keyOf : ∀ M : Nat → Nat, (∀ u ∈ S, M u ≠ M x) → (∀ i ∈ S, ∀ j ∈ S, M i = M j → i = j) → (∀ i ∈ S, ∀ j ∈ S, r i j = true → M i < M j) → (∀ u ∈ S, r x u = true → M x < M u) → (∀ u ∈ S, r u x = true → M u < M x) → Key r (x :: S) M := fun M a1 a2 a3 a4 a5 => by
    refine ⟨fun i hi j hj he => ?_, fun i hi j hj hij => ?_⟩
    · rw [List.mem_cons] at hi
      rcases hi with rfl | hi
      · rw [List.mem_cons] at hj
        rcases hj with rfl | hj
        · rfl
        · exact absurd he.symm (a1 j hj)
      · rw [List.mem_cons] at hj
        rcases hj with rfl | hj
        · exact absurd he (a1 i hi)
        · exact a2 i hi j hj he
    · rw [List.mem_cons] at hi
      rcases hi with rfl | hi
      · rw [List.mem_cons] at hj
        rcases hj with rfl | hj
        · rw [h.irr] at hij; cases hij
        · exact a4 j hj hij
      · rw [List.mem_cons] at hj
        rcases hj with rfl | hj
        · exact a5 i hi hij
        · exact a3 i hi j hj hij
  refine ⟨M1 :: M2 :: Ks.map ex, ⟨fun M hM => ?_, fun i hi j hj hij hn => ?_⟩, by simp⟩
  · rcases List.mem_cons.1 hM with rfl | hM
    · refine keyOf M (fun u hu => ?_) (fun i hi j hj he => ?_) (fun i hi j hj hij => ?_) (fun u hu hxu => ?_) fun u hu hux => ?_
      · rw [m1 u hu, m1x]; have := hN u hu; split <;> omega
      · rw [m1 i hi, m1 j hj] at he
        have := hN i hi; have := hN j hj
        refine hK.inj i hi j hj ?_
        split at he <;> split at he <;> omega
      · rw [m1 i hi, m1 j hj]
        have := hN i hi; have := hN j hj
        have h1 := hK.mono i hi j hj hij
        split
        · rename_i h2
          rw [if_pos (h.tr _ _ _ h2 hij)]; omega
        · split <;> omega
      · rw [m1x, m1 u hu, if_pos hxu]; omega
      · have h2 : r x u = false := h.asym hux
        rw [m1x, m1 u hu, if_neg (by simp [h2])]; exact hN u hu
    · rcases List.mem_cons.1 hM with rfl | hM
      · refine keyOf M (fun u hu => ?_) (fun i hi j hj he => ?_) (fun i hi j hj hij => ?_) (fun u hu hxu => ?_) fun u hu hux => ?_
        · rw [m2 u hu, m2x]; have := hN u hu; split <;> omega
        · rw [m2 i hi, m2 j hj] at he
          have := hN i hi; have := hN j hj
          refine hK.inj i hi j hj ?_
          split at he <;> split at he <;> omega
        · rw [m2 i hi, m2 j hj]
          have := hN i hi; have := hN j hj
          have h1 := hK.mono i hi j hj hij
          by_cases h2 : r j x = true
          · rw [if_pos h2, if_pos (h.tr _ _ _ hij h2)]; omega
          · rw [if_neg h2]; split <;> omega
        · have h2 : r u x = false := h.asym hxu
          rw [m2x, m2 u hu, if_neg (by simp [h2])]; omega
        · rw [m2x, m2 u hu, if_pos hux]; exact hN u hu
      · obtain ⟨L, hL, rfl⟩ := List.mem_map.1 hM
        have kL := hr.key L (by simp [hL])
        obtain ⟨x1, x2⟩ := hmx L
        refine keyOf _ (fun u hu => ?_) (fun i hi j hj he => ?_) (fun i hi j hj hij => ?_) (fun u hu hxu => ?_) fun u hu hux => ?_
        · rw [exx, exu L u hu]; omega
        · rw [exu L i hi, exu L j hj] at he; exact kL.inj i hi j hj (by omega)
        · rw [exu L i hi, exu L j hj]; have := kL.mono i hi j hj hij; omega
        · rw [exx, exu L u hu]
          rcases x2 with x2 | ⟨d, h1, h2, h3⟩
          · omega
          · have := kL.mono d h1 u hu (h.tr _ _ _ h2 hxu); omega
        · rw [exx, exu L u hu]; have := x1 u hu hux; omega
  · rw [List.mem_cons] at hi
    rcases hi with rfl | hi
    · rw [List.mem_cons] at hj
      rcases hj with rfl | hj
      · exact absurd rfl hij
      · refine ⟨M1, by simp, ?_⟩
        rw [m1x, m1 j hj, if_neg (by simp [hn])]; exact hN j hj
    · rw [List.mem_cons] at hj
      rcases hj with rfl | hj
      · refine ⟨M2, by simp, ?_⟩
        rw [m2x, m2 i hi, if_neg (by simp [hn])]; omega
      · obtain ⟨L, hL, hlt⟩ := hr.rev i hi j hj hij hn
        rcases List.mem_cons.1 hL with rfl | hL
        · by_cases hb : r x j = true ∧ r x i = false
          · refine ⟨M2, by simp, ?_⟩
            have h1 : r i x = false := by
              cases hc : r i x with
              | false => rfl
              | true => rw [h.tr _ _ _ hc hb.1] at hn; cases hn
            rw [m2 i hi, m2 j hj, if_neg (by simp [h.asym hb.1]), if_neg (by simp [h1])]
            omega
          · refine ⟨M1, by simp, ?_⟩
            rw [m1 i hi, m1 j hj]
            have := hN i hi; have := hN j hj
            by_cases h1 : r x j = true
            · have h2 : r x i = true := by
                cases hc : r x i with
                | true => rfl
                | false => exact absurd ⟨h1, hc⟩ hb
              rw [if_pos h1, if_pos h2]; omega
            · rw [if_neg h1]; split <;> omega
        · refine ⟨ex L, by simp only [List.mem_cons, List.mem_map]; exact .inr (.inr ⟨L, hL, rfl⟩), ?_⟩
          rw [exu L i hi, exu L j hj]; omega

/-- An antichain and an element more: two lines. -/
theorem rlz_anti {r : Nat → Nat → Bool} (h : Po r) {A : List Nat} {x : Nat} (hx : x ∉ A) (hn : A.Nodup) (ha : ∀ a ∈ A, ∀ b ∈ A, r a b = false) : ∃ K1 K2, Rlz r (x :: A) [K1, K2] := by
  obtain ⟨N, hN⟩ : ∃ N, N = A.length := ⟨_, rfl⟩
  have hi : ∀ u ∈ A, A.idxOf u < N := fun u hu => by rw [hN]; exact List.idxOf_lt_length_iff.2 hu
  have hne : ∀ u ∈ A, u ≠ x := fun u hu he => hx (he ▸ hu)
  have fin : ∀ M1 M2 : Nat → Nat, (∀ i ∈ x :: A, ∀ j ∈ x :: A, M1 i = M1 j → i = j) → (∀ i ∈ x :: A, ∀ j ∈ x :: A, M2 i = M2 j → i = j) → (∀ u ∈ A, r x u = true → M1 x < M1 u ∧ M2 x < M2 u) → (∀ u ∈ A, r u x = true → M1 u < M1 x ∧ M2 u < M2 x) →
      (∀ u ∈ A, r x u = false → M1 u < M1 x ∨ M2 u < M2 x) → (∀ u ∈ A, r u x = false → M1 x < M1 u ∨ M2 x < M2 u) → (∀ i ∈ A, ∀ j ∈ A, i ≠ j → M1 j < M1 i ∨ M2 j < M2 i) → ∃ K1 K2, Rlz r (x :: A) [K1, K2] := fun M1 M2 a1 a2 a3 a4 a5 a6 a7 => by
    have mono : ∀ M : Nat → Nat, (∀ u ∈ A, r x u = true → M x < M u) → (∀ u ∈ A, r u x = true → M u < M x) → ∀ i ∈ x :: A, ∀ j ∈ x :: A, r i j = true → M i < M j := fun M b1 b2 i hi j hj hij => by
      rw [List.mem_cons] at hi
      rcases hi with rfl | hi
      · rw [List.mem_cons] at hj
        rcases hj with rfl | hj
        · rw [h.irr] at hij; cases hij
        · exact b1 j hj hij
      · rw [List.mem_cons] at hj
        rcases hj with rfl | hj
        · exact b2 i hi hij
        · rw [ha i hi j hj] at hij; cases hij
    refine ⟨M1, M2, ⟨fun K hK => ?_, fun i hi j hj hij hn => ?_⟩⟩
    · rcases List.mem_cons.1 hK with rfl | hK
      · exact ⟨a1, mono K (fun u hu hr => (a3 u hu hr).1) fun u hu hr => (a4 u hu hr).1⟩
      · obtain rfl := List.mem_singleton.1 hK
        exact ⟨a2, mono K (fun u hu hr => (a3 u hu hr).2) fun u hu hr => (a4 u hu hr).2⟩
    · have : M1 j < M1 i ∨ M2 j < M2 i := by
        rw [List.mem_cons] at hi
        rcases hi with rfl | hi
        · rw [List.mem_cons] at hj
          rcases hj with rfl | hj
          · exact absurd rfl hij
          · exact a5 j hj hn
        · rw [List.mem_cons] at hj
          rcases hj with rfl | hj
          · exact a6 i hi hn
          · exact a7 i hi j hj hij
      rcases this with h1 | h1
      · exact ⟨M1, by simp, h1⟩
      · exact ⟨M2, by simp, h1⟩
  have hidx : ∀ i ∈ A, ∀ j ∈ A, A.idxOf i = A.idxOf j → i = j := fun i hi j hj he => idx_inj hi hj he
  by_cases hD : ∃ d ∈ A, r d x = true
  · obtain ⟨d, hd, hdx⟩ := hD
    have hU : ∀ u ∈ A, r x u = false := fun u hu => by
      cases hc : r x u with
      | false => rfl
      | true => have := h.tr _ _ _ hdx hc; rw [ha d hd u hu] at this; cases this
    obtain ⟨M, hM⟩ : ∃ M : Nat → Nat, M = fun u => if u = x then N else if r u x then A.idxOf u else N + 1 + A.idxOf u := ⟨_, rfl⟩
    obtain ⟨M', hM'⟩ : ∃ M' : Nat → Nat, M' = fun u => if u = x then 3 * N + 9 else 3 * N + 8 - M u := ⟨_, rfl⟩
    have mx : M x = N := by rw [hM]; simp
    have mx' : M' x = 3 * N + 9 := by rw [hM']; simp
    have mu : ∀ u ∈ A, M u = if r u x then A.idxOf u else N + 1 + A.idxOf u := fun u hu => by rw [hM]; exact if_neg (hne u hu)
    have mu' : ∀ u ∈ A, M' u = 3 * N + 8 - M u := fun u hu => by rw [hM']; exact if_neg (hne u hu)
    have ml : ∀ u ∈ A, M u ≤ 2 * N + 1 := fun u hu => by rw [mu u hu]; have := hi u hu; split <;> omega
    have inj : ∀ i ∈ A, ∀ j ∈ A, M i = M j → i = j := fun i hi1 j hj1 he => by
      rw [mu i hi1, mu j hj1] at he
      have := hi i hi1; have := hi j hj1
      refine hidx i hi1 j hj1 ?_
      split at he <;> split at he <;> omega
    have nx : ∀ u ∈ A, M u ≠ N := fun u hu => by rw [mu u hu]; have := hi u hu; split <;> omega
    refine fin M M' (fun i hi1 j hj1 he => ?_) (fun i hi1 j hj1 he => ?_) (fun u hu hr => ?_) (fun u hu hr => ?_) (fun u hu hr => .inr ?_) (fun u hu hr => .inl ?_) fun i hi1 j hj1 hij => ?_
    · rw [List.mem_cons] at hi1
      rcases hi1 with rfl | hi1
      · rw [List.mem_cons] at hj1
        rcases hj1 with rfl | hj1
        · rfl
        · rw [mx] at he; exact absurd he.symm (nx j hj1)
      · rw [List.mem_cons] at hj1
        rcases hj1 with rfl | hj1
        · rw [mx] at he; exact absurd he (nx i hi1)
        · exact inj i hi1 j hj1 he
    · rw [List.mem_cons] at hi1
      rcases hi1 with rfl | hi1
      · rw [List.mem_cons] at hj1
        rcases hj1 with rfl | hj1
        · rfl
        · rw [mx', mu' j hj1] at he; omega
      · rw [List.mem_cons] at hj1
        rcases hj1 with rfl | hj1
        · rw [mx', mu' i hi1] at he; omega
        · rw [mu' i hi1, mu' j hj1] at he
          have := ml i hi1; have := ml j hj1
          exact inj i hi1 j hj1 (by omega)
    · rw [hU u hu] at hr; cases hr
    · rw [mx, mx', mu' u hu, mu u hu, if_pos hr]; exact ⟨hi u hu, by omega⟩
    · rw [mx', mu' u hu]; omega
    · rw [mx, mu u hu, if_neg (by simp [hr])]; omega
    · rw [mu' i hi1, mu' j hj1]
      have := ml i hi1; have := ml j hj1
      have : M i ≠ M j := fun he => hij (inj i hi1 j hj1 he)
      omega
  · have hD' : ∀ u ∈ A, r u x = false := fun u hu => by
      cases hc : r u x with
      | false => rfl
      | true => exact absurd ⟨u, hu, hc⟩ hD
    obtain ⟨M, hM⟩ : ∃ M : Nat → Nat, M = fun u => if u = x then N else if r x u then N + 1 + A.idxOf u else A.idxOf u := ⟨_, rfl⟩
    obtain ⟨M', hM'⟩ : ∃ M' : Nat → Nat, M' = fun u => if u = x then 0 else 3 * N + 8 - M u := ⟨_, rfl⟩
    have mx : M x = N := by rw [hM]; simp
    have mx' : M' x = 0 := by rw [hM']; simp
    have mu : ∀ u ∈ A, M u = if r x u then N + 1 + A.idxOf u else A.idxOf u := fun u hu => by rw [hM]; exact if_neg (hne u hu)
    have mu' : ∀ u ∈ A, M' u = 3 * N + 8 - M u := fun u hu => by rw [hM']; exact if_neg (hne u hu)
    have ml : ∀ u ∈ A, M u ≤ 2 * N + 1 := fun u hu => by rw [mu u hu]; have := hi u hu; split <;> omega
    have inj : ∀ i ∈ A, ∀ j ∈ A, M i = M j → i = j := fun i hi1 j hj1 he => by
      rw [mu i hi1, mu j hj1] at he
      have := hi i hi1; have := hi j hj1
      refine hidx i hi1 j hj1 ?_
      split at he <;> split at he <;> omega
    have nx : ∀ u ∈ A, M u ≠ N := fun u hu => by rw [mu u hu]; have := hi u hu; split <;> omega
    refine fin M M' (fun i hi1 j hj1 he => ?_) (fun i hi1 j hj1 he => ?_) (fun u hu hr => ?_) (fun u hu hr => ?_) (fun u hu hr => .inl ?_) (fun u hu hr => .inr ?_) fun i hi1 j hj1 hij => ?_
    · rw [List.mem_cons] at hi1
      rcases hi1 with rfl | hi1
      · rw [List.mem_cons] at hj1
        rcases hj1 with rfl | hj1
        · rfl
        · rw [mx] at he; exact absurd he.symm (nx j hj1)
      · rw [List.mem_cons] at hj1
        rcases hj1 with rfl | hj1
        · rw [mx] at he; exact absurd he (nx i hi1)
        · exact inj i hi1 j hj1 he
    · rw [List.mem_cons] at hi1
      rcases hi1 with rfl | hi1
      · rw [List.mem_cons] at hj1
        rcases hj1 with rfl | hj1
        · rfl
        · rw [mx', mu' j hj1] at he; have := ml j hj1; omega
      · rw [List.mem_cons] at hj1
        rcases hj1 with rfl | hj1
        · rw [mx', mu' i hi1] at he; have := ml i hi1; omega
        · rw [mu' i hi1, mu' j hj1] at he
          have := ml i hi1; have := ml j hj1
          exact inj i hi1 j hj1 (by omega)
    · rw [mx, mx', mu' u hu, mu u hu, if_pos hr]; have := hi u hu; exact ⟨by omega, by omega⟩
    · rw [hD' u hu] at hr; cases hr
    · rw [mx, mu u hu, if_neg (by simp [hr])]; exact hi u hu
    · rw [mx', mu' u hu]; have := ml u hu; omega
    · rw [mu' i hi1, mu' j hj1]
      have := ml i hi1; have := ml j hj1
      have : M i ≠ M j := fun he => hij (inj i hi1 j hj1 he)
      omega

/-- **At most three lines, and at most as many as an antichain has elements.** -/
theorem dim_le {r : Nat → Nat → Bool} (h : Po r) {S : List Nat} (hS : S.Nodup) (hl : S.length ≤ 6) (h0 : S ≠ []) : ∃ A Ks, Ant r S A ∧ Rlz r S Ks ∧ 1 ≤ Ks.length ∧ Ks.length ≤ 3 ∧ Ks.length ≤ A.length := by
  obtain ⟨A, f, ha, hf⟩ := dilworth h _ S (Nat.le_refl _) hS
  have hA1 : 1 ≤ A.length := by
    obtain ⟨x, hx⟩ := List.exists_mem_of_ne_nil _ h0
    have := hf.lt x hx; omega
  by_cases h3 : A.length ≤ 3
  · obtain ⟨Ks, hk, hkl⟩ := rlz_chains h hS hf
    exact ⟨A, Ks, ha, hk, by omega, by omega, by omega⟩
  · obtain ⟨R, hR⟩ : ∃ R, R = S.filter fun z => !A.contains z := ⟨_, rfl⟩
    have hRm : ∀ z, z ∈ R ↔ z ∈ S ∧ z ∉ A := fun z => by rw [hR, List.mem_filter]; simp
    have hRn : R.Nodup := by rw [hR]; exact hS.filter _
    have hlen : A.length + R.length ≤ S.length := by
      rw [← List.length_append]
      refine sub_len (List.nodup_append.2 ⟨ha.nd, hRn, fun a h1 b h2 he => ?_⟩) fun z hz => ?_
      · subst he; exact ((hRm _).1 h2).2 h1
      · rcases List.mem_append.1 hz with hz | hz
        · exact ha.sub z hz
        · exact ((hRm _).1 hz).1
    have split : ∀ z, z ∈ S → z ∈ A ∨ z ∈ R := fun z hz => by
      by_cases hc : z ∈ A
      · exact .inl hc
      · exact .inr ((hRm _).2 ⟨hz, hc⟩)
    clear hR
    rcases R with _ | ⟨x, _ | ⟨y, _ | ⟨c, R'⟩⟩⟩
    · obtain ⟨x, A', rfl⟩ := List.exists_cons_of_ne_nil (List.ne_nil_of_length_pos hA1)
      obtain ⟨h1, h2⟩ := List.nodup_cons.1 ha.nd
      obtain ⟨K1, K2, hk⟩ := rlz_anti h h1 h2 fun a h3 b h4 => ha.an a (by simp [h3]) b (by simp [h4])
      exact ⟨_, _, ha, hk.sub fun z hz => (split z hz).elim id fun h => (by cases h), by simp, by simp, by simp at h3 ⊢; omega⟩
    · obtain ⟨K1, K2, hk⟩ := rlz_anti h ((hRm x).1 (List.mem_singleton.2 rfl)).2 ha.nd ha.an
      exact ⟨_, _, ha, hk.sub fun z hz => (split z hz).elim (fun h => by simp [h]) fun h => (by rw [List.mem_singleton.1 h]; simp), by simp, by simp, by simp; omega⟩
    · obtain ⟨K1, K2, hk⟩ := rlz_anti h ((hRm x).1 (by simp)).2 ha.nd ha.an
      have hy : y ∉ x :: A := fun hc => by
        rcases List.mem_cons.1 hc with hc | hc
        · simp [hc] at hRn
        · exact ((hRm y).1 (by simp)).2 hc
      obtain ⟨Ks, hk3, hl3⟩ := rlz_insert h hy hk
      refine ⟨_, Ks, ha, hk3.sub fun z hz => ?_, by simp [hl3], by simp [hl3], by simp at hl3; omega⟩
      rcases split z hz with h4 | h4
      · simp [h4]
      · rcases List.mem_cons.1 h4 with rfl | h4
        · simp
        · rw [List.mem_singleton.1 h4]; simp
    · simp only [List.length_cons] at hlen; omega
end Ord

namespace Ord
open Go.Am

/-- The first of the sequences, each number at least d behind the one ahead of it, that pass. -/
def srch (P : List Nat → Bool) (N d : Nat) : Nat → Nat → List Nat → Option (List Nat)
  | 0, _, pre => if P pre = true then some pre else none
  | s + 1, fr, pre => (List.range' fr (N - fr)).findSome? fun k => srch P N d s (k + d) (pre ++ [k])
def Cmp (N d : Nat) : Nat → List Nat → Prop
  | _, [] => True
  | fr, k :: t => fr ≤ k ∧ k < N ∧ Cmp N d (k + d) t
theorem Cmp.low {N d : Nat} : ∀ {t : List Nat} {a b : Nat}, a ≤ b → Cmp N d b t → Cmp N d a t
  | [], _, _, _, _ => trivial
  | k :: t, a, b, hab, h => ⟨Nat.le_trans hab h.1, h.2⟩
theorem Cmp.lt {N d : Nat} : ∀ {t : List Nat} {a : Nat}, Cmp N d a t → ∀ k ∈ t, a ≤ k ∧ k < N
  | [], _, _, _, h => by cases h
  | m :: t, a, h, k, hk => by
    rcases List.mem_cons.1 hk with rfl | hk
    · exact ⟨h.1, h.2.1⟩
    · have := Cmp.lt h.2.2 k hk; have := h.1; omega
section
variable {P : List Nat → Bool} {N d : Nat}
theorem srch_some : ∀ {s fr : Nat} {pre q : List Nat}, srch P N d s fr pre = some q → ∃ t, q = pre ++ t ∧ t.length = s ∧ Cmp N d fr t ∧ P q = true
  | 0, fr, pre, q, h => by
    rw [srch] at h
    split at h
    · rename_i hp
      cases h
      exact ⟨[], by simp, rfl, trivial, hp⟩
    · cases h
  | s + 1, fr, pre, q, h => by
    rw [srch] at h
    obtain ⟨k, hk, h2⟩ := List.exists_of_findSome?_eq_some h
    obtain ⟨t, h3, h4, h5, h6⟩ := srch_some h2
    have hk2 := List.mem_range'_1.1 hk
    exact ⟨k :: t, by rw [h3]; simp, by simp [h4], ⟨hk2.1, by omega, h5⟩, h6⟩
theorem srch_none : ∀ {s fr : Nat} {pre : List Nat}, srch P N d s fr pre = none → ∀ t, t.length = s → Cmp N d fr t → P (pre ++ t) = false
  | 0, fr, pre, h, t, ht, _ => by
    obtain rfl := List.length_eq_zero_iff.1 ht
    rw [srch] at h
    split at h
    · cases h
    · rename_i hp
      simpa using hp
  | s + 1, fr, pre, h, t, ht, hc => by
    match t, ht, hc with
    | k :: t, ht, hc =>
      rw [srch, List.findSome?_eq_none_iff] at h
      have := srch_none (h k (List.mem_range'_1.2 ⟨hc.1, by have := hc.1; have := hc.2.1; omega⟩)) t (by simpa using ht) hc.2.2
      rw [← this]; simp
end
theorem cmp_filter {N : Nat} (p : Nat → Bool) : ∀ (n fr : Nat), fr + n ≤ N → Cmp N 1 fr ((List.range' fr n).filter p)
  | 0, _, _ => trivial
  | n + 1, fr, h => by
    rw [List.range'_succ, List.filter_cons]
    have := cmp_filter (N := N) p n (fr + 1) (by omega)
    split
    · exact ⟨Nat.le_refl _, by omega, this⟩
    · exact this.low (Nat.le_succ fr)
/-- Sorted, without repetition. -/
theorem sorted_of {N : Nat} {ks : List Nat} (h : ∀ k ∈ ks, k < N) : ∃ t, Cmp N 1 0 t ∧ (∀ x, x ∈ t ↔ x ∈ ks) ∧ t.length ≤ ks.length := by
  have hm : ∀ x, x ∈ (List.range' 0 N).filter (fun x => ks.contains x) ↔ x ∈ ks := fun x => by
    rw [List.mem_filter, List.mem_range'_1, List.contains_iff_mem]
    exact ⟨fun h => h.2, fun hx => ⟨⟨Nat.zero_le _, by have := h x hx; omega⟩, hx⟩⟩
  exact ⟨_, cmp_filter (N := N) _ N 0 (by omega), hm, sub_len ((List.nodup_range' (step := 1)).filter _) fun a ha => (hm a).1 ha⟩

/-- The first of the Xb. -/
def Xb (P : List Nat → Bool) (N d : Nat) : Nat → Option (List Nat)
  | 0 => none
  | s + 1 => (Xb P N d s).or (srch P N d (s + 1) 0 [])
/-- What passes hangs on the members alone. -/
def Mem (P : List Nat → Bool) : Prop := ∀ a b : List Nat, (∀ x, x ∈ a ↔ x ∈ b) → P a = P b
theorem shortest_none {P : List Nat → Bool} {N d : Nat} : ∀ {s : Nat}, Xb P N d s = none → ∀ t, 1 ≤ t.length → t.length ≤ s → Cmp N d 0 t → P t = false
  | 0, _, t, h1, h2, _ => by omega
  | s + 1, h, t, h1, h2, hc => by
    rw [Xb, Option.or_eq_none_iff] at h
    by_cases hl : t.length = s + 1
    · have := srch_none h.2 t hl hc
      simpa using this
    · exact shortest_none h.1 t h1 (by omega) hc
/-! ### Realizers -/
/-- All that is not above stands ahead somewhere. -/
def sepB (o : List Int) (pre : List Nat) : Bool := (List.range o.length).all fun i => (List.range o.length).all fun j => decide (i = j) || ab o i j || pre.any fun k => bef ((Yw o).getD k []) j i
theorem sepB_iff {o : List Int} {pre : List Nat} : sepB o pre = true ↔ ∀ i j, i < o.length → j < o.length → i ≠ j → ab o i j = false → ∃ k ∈ pre, bef ((Yw o).getD k []) j i = true := by
  simp only [sepB, List.all_eq_true, List.mem_range, Bool.or_eq_true, decide_eq_true_eq, List.any_eq_true]
  constructor
  · intro h i j hi hj hne hab
    rcases h i hi j hj with (h1 | h1) | h1
    · exact absurd h1 hne
    · rw [hab] at h1; cases h1
    · exact h1
  · intro h i hi j hj
    by_cases h1 : i = j
    · exact .inl (.inl h1)
    · cases h2 : ab o i j with
      | true => exact .inl (.inr rfl)
      | false => exact .inr (h i j hi hj h1 h2)
theorem sepB_mem (o : List Int) : Mem (sepB o) := fun a b h => by
  rw [Bool.eq_iff_iff, sepB_iff, sepB_iff]
  simp only [h]
def realL (o : List Int) : List Nat := ((Xb (sepB o) (cn o) 1 3).getD [])
theorem key_line {o : List Int} (ho : ord o = true) {K : Nat → Nat} (hK : Key (ab o) (List.range o.length) K) : ∃ k, k < cn o ∧ ∀ i j, i < o.length → j < o.length → K i < K j → bef ((Yw o).getD k []) i j = true := by
  obtain ⟨rK, hrK⟩ : ∃ rK : Nat → Nat → Bool, rK = fun i j => decide (K i < K j) := ⟨_, rfl⟩
  have hr : ∀ i j, rK i j = true ↔ K i < K j := fun i j => by rw [hrK]; exact decide_eq_true_iff
  have hpo : Po rK := ⟨fun i => by rw [← Bool.not_eq_true, hr]; omega, fun i j k h1 h2 => by rw [hr] at h1 h2 ⊢; omega⟩
  have hp := cnt_pos hpo (k := o.length) (S := List.range o.length) (by simp)
  rw [← cnt_len] at hp
  obtain ⟨l, hl⟩ := List.exists_mem_of_ne_nil _ (List.ne_nil_of_length_pos hp)
  obtain ⟨h1, h2⟩ := (Vg hpo.irr (by simp) l).1 hl
  have hla : l ∈ Yw o := (mem_all ho).2 ⟨h1, h2.imp_of_mem fun {a b} ha hb hab => by
    cases hc : ab o b a with
    | false => rfl
    | true =>
      have := hK.mono b (h1.mem_iff.1 hb) a (h1.mem_iff.1 ha) hc
      rw [(hr b a).2 this] at hab; cases hab⟩
  obtain ⟨k, hk, he⟩ := List.mem_iff_getElem.1 hla
  rw [Xr] at hk
  refine ⟨k, hk, fun i j hi hj hij => ?_⟩
  have hg : (Yw o).getD k [] = l := by rw [List.getD, List.getElem?_eq_getElem (by rw [Xr]; exact hk), he]; rfl
  rw [hg]
  have hn : l.Nodup := h1.nodup_iff.2 List.nodup_range
  have hil : i ∈ l := h1.mem_iff.2 (List.mem_range.2 hi)
  have hjl : j ∈ l := h1.mem_iff.2 (List.mem_range.2 hj)
  cases hc : bef l i j with
  | true => rfl
  | false =>
    have hne : i ≠ j := by rintro rfl; omega
    rw [bef_not hjl hil hne.symm] at hc
    have := (bef_pw hn).1 h2 j hjl i hil (by simpa using hc)
    rw [(hr i j).2 hij] at this; cases this
/-- **There is a realizer of at most three lines, and of at most as many as an antichain has elements.** -/
theorem real_ex {o : List Int} (ho : ord o = true) : ∃ A t, Ant (ab o) (List.range o.length) A ∧ Cmp (cn o) 1 0 t ∧ 1 ≤ t.length ∧ t.length ≤ 3 ∧ t.length ≤ max 1 A.length ∧ sepB o t = true := by
  have hl := Xi ho
  obtain ⟨A, Ks, ha, hk, h1, h3, hA⟩ := dim_le (ord_po ho) (S := List.range o.length) List.nodup_range (by simp; omega) (List.ne_nil_of_length_pos (by simp; omega))
  have hks : ∀ Ks' : List (Nat → Nat), (∀ K ∈ Ks', Key (ab o) (List.range o.length) K) → ∃ ks : List Nat, ks.length = Ks'.length ∧ (∀ k ∈ ks, k < cn o) ∧ ∀ K ∈ Ks', ∃ k ∈ ks, ∀ i j, i < o.length → j < o.length → K i < K j → bef ((Yw o).getD k []) i j = true := fun Ks' => by
    induction Ks' with
    | nil => intro _; exact ⟨[], rfl, fun _ h => (by cases h), fun _ h => by cases h⟩
    | cons K Ks' ih =>
      intro h
      obtain ⟨ks, g1, g2, g3⟩ := ih fun K hK => h K (by simp [hK])
      obtain ⟨k, g4, g5⟩ := key_line ho (h K (by simp))
      refine ⟨k :: ks, by simp [g1], fun x hx => ?_, fun K' hK' => ?_⟩
      · rcases List.mem_cons.1 hx with rfl | hx
        · exact g4
        · exact g2 x hx
      · rcases List.mem_cons.1 hK' with rfl | hK'
        · exact ⟨k, by simp, g5⟩
        · obtain ⟨k', g6, g7⟩ := g3 K' hK'
          exact ⟨k', by simp [g6], g7⟩
  obtain ⟨ks, g1, g2, g3⟩ := hks Ks hk.key
  obtain ⟨t, t1, t2, t3⟩ := sorted_of g2
  have hne : 1 ≤ t.length := by
    obtain ⟨x, hx⟩ := List.exists_mem_of_ne_nil ks (List.ne_nil_of_length_pos (by omega))
    exact List.length_pos_of_mem ((t2 x).2 hx)
  refine ⟨A, t, ha, t1, hne, by omega, by omega, ?_⟩
  rw [sepB_mem o t ks t2, sepB_iff]
  intro i j hi hj hne hab
  obtain ⟨K, hK, hlt⟩ := hk.rev i (List.mem_range.2 hi) j (List.mem_range.2 hj) hne hab
  obtain ⟨k, g4, g5⟩ := g3 K hK
  exact ⟨k, g4, g5 j i hj hi hlt⟩
end Ord

namespace Go.Proofs.Tryd.Am
open Go.Am
set_option maxRecDepth 100000
/-! 11: planchet planchetlaw07.OrderDims -/
@[reducible] def q11_0 : SCode := .region [⟨some 2, .assign (.const (.bool false)), none⟩]
@[reducible] def q11_1 : SCode := .region [⟨some 20, .move (.tmp 0), none⟩,
    ⟨some 21, .call { callee := .value (.func 18), args := #[.tmp 20], argTypes := #[22] }, none⟩,
    ⟨some 22, .call { callee := .value (.func 43), args := #[.tmp 21], argTypes := #[22] }, none⟩,
    ⟨some 19, .move (.tmp 22), none⟩,
    ⟨some 23, .extract (.tmp 19) 0, none⟩,
    ⟨some 24, .extract (.tmp 19) 1, none⟩,
    ⟨some 3, .assign (.tmp 23), none⟩,
    ⟨some 4, .assign (.tmp 24), none⟩]
@[reducible] def q11_2 : SCode := .region [⟨some 26, .move (.tmp 0), none⟩,
    ⟨some 27, .call { callee := .value (.func 18), args := #[.tmp 26], argTypes := #[22] }, none⟩,
    ⟨some 28, .call { callee := .value (.func 44), args := #[.tmp 27], argTypes := #[22] }, none⟩,
    ⟨some 25, .move (.tmp 28), none⟩,
    ⟨some 29, .extract (.tmp 25) 0, none⟩,
    ⟨some 30, .extract (.tmp 25) 1, none⟩,
    ⟨some 5, .assign (.tmp 29), none⟩,
    ⟨some 6, .assign (.tmp 30), none⟩]
@[reducible] def q11_3 : SCode := .region [⟨some 32, .move (.tmp 0), none⟩,
    ⟨some 33, .call { callee := .value (.func 18), args := #[.tmp 32], argTypes := #[22] }, none⟩,
    ⟨some 34, .call { callee := .value (.func 48), args := #[.tmp 33], argTypes := #[22] }, none⟩,
    ⟨some 31, .move (.tmp 34), none⟩,
    ⟨some 35, .extract (.tmp 31) 0, none⟩,
    ⟨some 36, .extract (.tmp 31) 1, none⟩,
    ⟨some 7, .assign (.tmp 35), none⟩,
    ⟨some 8, .assign (.tmp 36), none⟩]
@[reducible] def q11_4 : SCode := .region [⟨some 37, .move (.tmp 4), none⟩,
    ⟨some 38, .binOp .neq 23 (.tmp 37) (.const (.int .i64 0)) 23, none⟩,
    ⟨some 39, .move (.tmp 38), none⟩,
    ⟨some 40, .move (.tmp 0), some (39, false)⟩,
    ⟨some 41, .call { callee := .value (.func 19), args := #[.tmp 40], argTypes := #[22] }, some (39, false)⟩,
    ⟨some 42, .unOp .not 4 (.tmp 41), some (39, false)⟩,
    ⟨some 43, .pick (.tmp 39) (.const (.bool true)) (.tmp 42), none⟩]
@[reducible] def q11_5 : SCode := .region [⟨some 44, .move (.tmp 4), none⟩,
    ⟨some 45, .binOp .eql 23 (.tmp 44) (.const (.int .i64 2)) 23, none⟩,
    ⟨some 46, .move (.tmp 45), none⟩,
    ⟨some 47, .move (.tmp 6), some (46, true)⟩,
    ⟨some 48, .move (.tmp 4), some (46, true)⟩,
    ⟨some 49, .binOp .eql 23 (.tmp 47) (.tmp 48) 23, some (46, true)⟩,
    ⟨some 50, .pick (.tmp 46) (.tmp 49) (.const (.bool false)), none⟩,
    ⟨some 51, .move (.tmp 50), none⟩,
    ⟨some 52, .move (.tmp 8), some (51, true)⟩,
    ⟨some 53, .move (.tmp 4), some (51, true)⟩,
    ⟨some 54, .binOp .eql 23 (.tmp 52) (.tmp 53) 23, some (51, true)⟩,
    ⟨some 55, .pick (.tmp 51) (.tmp 54) (.const (.bool false)), none⟩,
    ⟨some 56, .move (.tmp 55), none⟩,
    ⟨some 57, .call { callee := .value (.func 20), args := #[], argTypes := #[] }, some (56, true)⟩,
    ⟨some 58, .pick (.tmp 56) (.tmp 57) (.const (.bool false)), none⟩,
    ⟨some 2, .assign (.tmp 58), none⟩]
@[reducible] def q11_6 : SCode := .region [⟨some 59, .move (.tmp 6), none⟩,
    ⟨some 60, .binOp .neq 23 (.tmp 59) (.const (.int .i64 0)) 23, none⟩,
    ⟨some 61, .move (.tmp 60), none⟩,
    ⟨some 62, .move (.tmp 8), some (61, false)⟩,
    ⟨some 63, .binOp .neq 23 (.tmp 62) (.const (.int .i64 0)) 23, some (61, false)⟩,
    ⟨some 64, .pick (.tmp 61) (.const (.bool true)) (.tmp 63), none⟩,
    ⟨some 65, .move (.tmp 64), none⟩,
    ⟨some 66, .move (.tmp 5), some (65, false)⟩,
    ⟨some 67, .move (.tmp 3), some (65, false)⟩,
    ⟨some 68, .call { callee := .builtin .len, args := #[.tmp 67], argTypes := #[45] }, some (65, false)⟩,
    ⟨some 69, .binOp .neq 3 (.tmp 66) (.tmp 68) 3, some (65, false)⟩,
    ⟨some 70, .pick (.tmp 65) (.const (.bool true)) (.tmp 69), none⟩,
    ⟨some 71, .move (.tmp 70), none⟩,
    ⟨some 72, .move (.tmp 5), some (71, false)⟩,
    ⟨some 73, .binOp .lss 3 (.tmp 72) (.const (.int .i64 1)) 3, some (71, false)⟩,
    ⟨some 74, .pick (.tmp 71) (.const (.bool true)) (.tmp 73), none⟩,
    ⟨some 75, .move (.tmp 74), none⟩,
    ⟨some 76, .move (.tmp 5), some (75, false)⟩,
    ⟨some 77, .binOp .gtr 3 (.tmp 76) (.const (.int .i64 3)) 3, some (75, false)⟩,
    ⟨some 78, .pick (.tmp 75) (.const (.bool true)) (.tmp 77), none⟩,
    ⟨some 79, .move (.tmp 78), none⟩,
    ⟨some 80, .move (.tmp 5), some (79, false)⟩,
    ⟨some 81, .move (.tmp 7), some (79, false)⟩,
    ⟨some 82, .binOp .and 3 (.tmp 81) (.const (.int .i64 63)) 3, some (79, false)⟩,
    ⟨some 83, .call { callee := .value (.func 49), args := #[.tmp 82], argTypes := #[3] }, some (79, false)⟩,
    ⟨some 84, .call { callee := .builtin .max, args := #[.const (.int .i64 1), .tmp 83], argTypes := #[3, 3] }, some (79, false)⟩,
    ⟨some 85, .binOp .gtr 3 (.tmp 80) (.tmp 84) 3, some (79, false)⟩,
    ⟨some 86, .pick (.tmp 79) (.const (.bool true)) (.tmp 85), none⟩]
@[reducible] def q11_7 : SCode := .region [⟨some 2, .assign (.const (.bool false)), none⟩]
@[reducible] def q11_8 : SCode := .region [⟨some 87, .move (.tmp 0), none⟩,
    ⟨some 88, .call { callee := .builtin .len, args := #[.tmp 87], argTypes := #[22] }, none⟩,
    ⟨some 89, .makeSlice 22 (.tmp 88) (.tmp 88), none⟩,
    ⟨some 9, .assign (.tmp 89), none⟩]
@[reducible] def q11_9 : SCode := .region [⟨some 90, .move (.tmp 9), none⟩,
    ⟨some 91, .call { callee := .builtin .len, args := #[.tmp 90], argTypes := #[22] }, none⟩,
    ⟨some 92, .move (.const (.int .i64 0)), none⟩]
@[reducible] def q11_10 : SCode := .region [⟨some 93, .binOp .lss 3 (.tmp 92) (.tmp 91) 3, none⟩]
@[reducible] def q11_11 : SCode := .region [⟨some 94, .move (.tmp 92), none⟩,
    ⟨some 10, .assign (.tmp 94), none⟩]
@[reducible] def q11_12 : SCode := .region [⟨some 95, .move (.tmp 9), none⟩,
    ⟨some 96, .move (.tmp 10), none⟩,
    ⟨some 97, .move (.tmp 0), none⟩,
    ⟨some 98, .call { callee := .builtin .len, args := #[.tmp 97], argTypes := #[22] }, none⟩,
    ⟨some 99, .binOp .shl 3 (.const (.int .i64 1)) (.tmp 98) 3, none⟩,
    ⟨some 100, .binOp .sub 3 (.tmp 99) (.const (.int .i64 1)) 3, none⟩,
    ⟨some 101, .indexAddr 22 (.tmp 95) (.tmp 96), none⟩,
    ⟨none, .store 3 (.tmp 101) (.tmp 100), none⟩]
@[reducible] def q11_13 : SCode := .region [⟨some 102, .binOp .add 3 (.tmp 92) (.const (.int .i64 1)) 3, none⟩,
    ⟨some 92, .move (.tmp 102), none⟩]
def l11_0 : SCode := (.seq q11_10 (.seq (.cond (.tmp 93) .skip (.exit 0)) (.seq (.block 1 (.seq q11_11 q11_12)) q11_13)))
@[reducible] def q11_14 : SCode := .region [⟨some 103, .move (.tmp 3), none⟩,
    ⟨some 104, .call { callee := .builtin .len, args := #[.tmp 103], argTypes := #[45] }, none⟩,
    ⟨some 105, .move (.const (.int .i64 0)), none⟩]
@[reducible] def q11_15 : SCode := .region [⟨some 106, .binOp .lss 3 (.tmp 105) (.tmp 104) 3, none⟩]
@[reducible] def q11_16 : SCode := .region [⟨some 107, .indexAddr 45 (.tmp 103) (.tmp 105), none⟩,
    ⟨some 108, .load 22 (.tmp 107), none⟩,
    ⟨some 12, .assign (.tmp 108), none⟩]
@[reducible] def q11_17 : SCode := .region [⟨some 13, .assign (.const (.int .i64 0)), none⟩]
@[reducible] def q11_18 : SCode := .region [⟨some 109, .move (.tmp 12), none⟩,
    ⟨some 110, .call { callee := .builtin .len, args := #[.tmp 109], argTypes := #[22] }, none⟩,
    ⟨some 111, .move (.tmp 0), none⟩,
    ⟨some 112, .call { callee := .builtin .len, args := #[.tmp 111], argTypes := #[22] }, none⟩,
    ⟨some 113, .binOp .neq 3 (.tmp 110) (.tmp 112) 3, none⟩]
@[reducible] def q11_19 : SCode := .region [⟨some 2, .assign (.const (.bool false)), none⟩]
@[reducible] def q11_20 : SCode := .region [⟨some 114, .move (.tmp 12), none⟩,
    ⟨some 115, .call { callee := .builtin .len, args := #[.tmp 114], argTypes := #[22] }, none⟩,
    ⟨some 116, .move (.const (.int .i64 0)), none⟩]
@[reducible] def q11_21 : SCode := .region [⟨some 117, .binOp .lss 3 (.tmp 116) (.tmp 115) 3, none⟩]
@[reducible] def q11_22 : SCode := .region [⟨some 118, .indexAddr 22 (.tmp 114) (.tmp 116), none⟩,
    ⟨some 119, .load 3 (.tmp 118), none⟩,
    ⟨some 15, .assign (.tmp 119), none⟩]
@[reducible] def q11_23 : SCode := .region [⟨some 120, .move (.tmp 15), none⟩,
    ⟨some 121, .binOp .lss 3 (.tmp 120) (.const (.int .i64 0)) 3, none⟩,
    ⟨some 122, .move (.tmp 121), none⟩,
    ⟨some 123, .move (.tmp 15), some (122, false)⟩,
    ⟨some 124, .move (.tmp 0), some (122, false)⟩,
    ⟨some 125, .call { callee := .builtin .len, args := #[.tmp 124], argTypes := #[22] }, some (122, false)⟩,
    ⟨some 126, .binOp .geq 3 (.tmp 123) (.tmp 125) 3, some (122, false)⟩,
    ⟨some 127, .pick (.tmp 122) (.const (.bool true)) (.tmp 126), none⟩,
    ⟨some 128, .move (.tmp 127), none⟩,
    ⟨some 129, .move (.tmp 13), some (128, false)⟩,
    ⟨some 130, .move (.tmp 15), some (128, false)⟩,
    ⟨some 131, .binOp .shr 3 (.tmp 129) (.tmp 130) 3, some (128, false)⟩,
    ⟨some 132, .binOp .and 3 (.tmp 131) (.const (.int .i64 1)) 3, some (128, false)⟩,
    ⟨some 133, .binOp .eql 3 (.tmp 132) (.const (.int .i64 1)) 3, some (128, false)⟩,
    ⟨some 134, .pick (.tmp 128) (.const (.bool true)) (.tmp 133), none⟩]
@[reducible] def q11_24 : SCode := .region [⟨some 2, .assign (.const (.bool false)), none⟩]
@[reducible] def q11_25 : SCode := .region [⟨some 135, .move (.tmp 13), none⟩,
    ⟨some 136, .move (.tmp 15), none⟩,
    ⟨some 137, .binOp .shl 3 (.const (.int .i64 1)) (.tmp 136) 3, none⟩,
    ⟨some 138, .binOp .or 3 (.tmp 135) (.tmp 137) 3, none⟩,
    ⟨some 13, .assign (.tmp 138), none⟩]
@[reducible] def q11_26 : SCode := .region [⟨some 139, .move (.tmp 9), none⟩,
    ⟨some 140, .move (.tmp 15), none⟩,
    ⟨some 141, .indexAddr 22 (.tmp 139) (.tmp 140), none⟩,
    ⟨some 142, .load 3 (.tmp 141), none⟩,
    ⟨some 143, .move (.tmp 13), none⟩,
    ⟨some 144, .binOp .andNot 3 (.tmp 142) (.tmp 143) 3, none⟩,
    ⟨some 145, .indexAddr 22 (.tmp 139) (.tmp 140), none⟩,
    ⟨none, .store 3 (.tmp 145) (.tmp 144), none⟩]
@[reducible] def q11_27 : SCode := .region [⟨some 146, .binOp .add 3 (.tmp 116) (.const (.int .i64 1)) 3, none⟩,
    ⟨some 116, .move (.tmp 146), none⟩]
def l11_1 : SCode := (.seq q11_21 (.seq (.cond (.tmp 117) .skip (.exit 4)) (.seq (.block 5 (.seq q11_22 (.seq (.seq q11_23 (.cond (.tmp 134) (.seq q11_24 .ret) .skip)) (.seq q11_25 q11_26)))) q11_27)))
@[reducible] def q11_28 : SCode := .region [⟨some 147, .binOp .add 3 (.tmp 105) (.const (.int .i64 1)) 3, none⟩,
    ⟨some 105, .move (.tmp 147), none⟩]
def l11_2 : SCode := (.seq q11_15 (.seq (.cond (.tmp 106) .skip (.exit 2)) (.seq (.block 3 (.seq q11_16 (.seq q11_17 (.seq (.seq q11_18 (.cond (.tmp 113) (.seq q11_19 .ret) .skip)) (.seq q11_20 (.block 4 (.loop l11_1))))))) q11_28)))
@[reducible] def q11_29 : SCode := .region [⟨some 16, .assign (.const (.bool false)), none⟩]
@[reducible] def q11_30 : SCode := .region [⟨some 148, .move (.tmp 0), none⟩,
    ⟨some 149, .call { callee := .builtin .len, args := #[.tmp 148], argTypes := #[22] }, none⟩,
    ⟨some 150, .move (.const (.int .i64 0)), none⟩]
@[reducible] def q11_31 : SCode := .region [⟨some 151, .binOp .lss 3 (.tmp 150) (.tmp 149) 3, none⟩]
@[reducible] def q11_32 : SCode := .region [⟨some 152, .move (.tmp 150), none⟩,
    ⟨some 17, .assign (.tmp 152), none⟩]
@[reducible] def q11_33 : SCode := .region [⟨some 153, .move (.tmp 0), none⟩,
    ⟨some 154, .call { callee := .builtin .len, args := #[.tmp 153], argTypes := #[22] }, none⟩,
    ⟨some 155, .move (.const (.int .i64 0)), none⟩]
@[reducible] def q11_34 : SCode := .region [⟨some 156, .binOp .lss 3 (.tmp 155) (.tmp 154) 3, none⟩]
@[reducible] def q11_35 : SCode := .region [⟨some 157, .move (.tmp 155), none⟩,
    ⟨some 18, .assign (.tmp 157), none⟩]
@[reducible] def q11_36 : SCode := .region [⟨some 158, .move (.tmp 16), none⟩,
    ⟨some 159, .move (.tmp 158), none⟩,
    ⟨some 160, .move (.tmp 0), some (159, false)⟩,
    ⟨some 161, .move (.tmp 17), some (159, false)⟩,
    ⟨some 162, .move (.tmp 18), some (159, false)⟩,
    ⟨some 163, .call { callee := .value (.func 22), args := #[.tmp 160, .tmp 161, .tmp 162], argTypes := #[22, 3, 3] }, some (159, false)⟩,
    ⟨some 164, .pick (.tmp 159) (.const (.bool true)) (.tmp 163), none⟩,
    ⟨some 16, .assign (.tmp 164), none⟩]
@[reducible] def q11_37 : SCode := .region [⟨some 165, .binOp .add 3 (.tmp 155) (.const (.int .i64 1)) 3, none⟩,
    ⟨some 155, .move (.tmp 165), none⟩]
def l11_3 : SCode := (.seq q11_34 (.seq (.cond (.tmp 156) .skip (.exit 8)) (.seq (.block 9 (.seq q11_35 q11_36)) q11_37)))
@[reducible] def q11_38 : SCode := .region [⟨some 166, .binOp .add 3 (.tmp 150) (.const (.int .i64 1)) 3, none⟩,
    ⟨some 150, .move (.tmp 166), none⟩]
def l11_4 : SCode := (.seq q11_31 (.seq (.cond (.tmp 151) .skip (.exit 6)) (.seq (.block 7 (.seq q11_32 (.seq q11_33 (.block 8 (.loop l11_3))))) q11_38)))
@[reducible] def q11_39 : SCode := .region [⟨some 167, .move (.tmp 9), none⟩,
    ⟨some 168, .move (.tmp 0), none⟩,
    ⟨some 169, .call { callee := .value (.func 34), args := #[.tmp 167, .tmp 168], argTypes := #[22, 22] }, none⟩,
    ⟨some 170, .move (.tmp 169), none⟩,
    ⟨some 171, .move (.tmp 5), some (170, true)⟩,
    ⟨some 172, .binOp .eql 3 (.tmp 171) (.const (.int .i64 1)) 3, some (170, true)⟩,
    ⟨some 173, .move (.tmp 16), some (170, true)⟩,
    ⟨some 174, .unOp .not 4 (.tmp 173), some (170, true)⟩,
    ⟨some 175, .binOp .eql 4 (.tmp 172) (.tmp 174) 4, some (170, true)⟩,
    ⟨some 176, .pick (.tmp 170) (.tmp 175) (.const (.bool false)), none⟩,
    ⟨some 177, .move (.tmp 176), none⟩,
    ⟨some 178, .call { callee := .value (.func 20), args := #[], argTypes := #[] }, some (177, true)⟩,
    ⟨some 179, .pick (.tmp 177) (.tmp 178) (.const (.bool false)), none⟩,
    ⟨some 2, .assign (.tmp 179), none⟩]
def s11 : SCode := (.seq q11_0 (.seq q11_1 (.seq q11_2 (.seq q11_3 (.seq (.seq q11_4 (.cond (.tmp 43) (.seq q11_5 .ret) .skip)) (.seq (.seq q11_6 (.cond (.tmp 86) (.seq q11_7 .ret) .skip)) (.seq q11_8 (.seq (.seq q11_9 (.block 0 (.loop l11_0))) (.seq (.seq q11_14 (.block 2 (.loop l11_2))) (.seq q11_29 (.seq (.seq q11_30 (.block 6 (.loop l11_4))) (.seq q11_39 .ret))))))))))))
theorem s11_strip : Yf (Yi Tryd.f11) = s11 := by kernel_rfl
theorem s11_ok : Yu 180 (Yi Tryd.f11) = true := by kernel_rfl
/-! 43: planchet order.Real -/
@[reducible] def q43_0 : SCode := .region [⟨some 2, .assign (.const (.slice none 0 0)), none⟩,
    ⟨some 3, .assign (.const (.int .i64 0)), none⟩]
@[reducible] def q43_1 : SCode := .region [⟨some 7, .move (.tmp 0), none⟩,
    ⟨some 8, .call { callee := .value (.func 64), args := #[.tmp 7], argTypes := #[22] }, none⟩,
    ⟨some 6, .move (.tmp 8), none⟩,
    ⟨some 9, .extract (.tmp 6) 0, none⟩,
    ⟨some 10, .extract (.tmp 6) 1, none⟩,
    ⟨some 4, .alloc 77, none⟩,
    ⟨none, .store 77 (.tmp 4) (.tmp 9), none⟩,
    ⟨some 5, .assign (.tmp 10), none⟩]
@[reducible] def q43_2 : SCode := .region [⟨some 11, .move (.tmp 5), none⟩,
    ⟨some 12, .unOp .not 4 (.tmp 11), none⟩]
@[reducible] def q43_3 : SCode := .region [⟨some 2, .assign (.const (.slice none 0 0)), none⟩,
    ⟨some 3, .assign (.const (.int .i64 2)), none⟩]
@[reducible] def q43_4 : SCode := .region [⟨some 13, .load 77 (.tmp 4), none⟩,
    ⟨some 14, .call { callee := .value (.func 80), args := #[.tmp 13], argTypes := #[77] }, none⟩,
    ⟨some 2, .assign (.tmp 14), none⟩,
    ⟨some 3, .assign (.const (.int .i64 0)), none⟩]
def s43 : SCode := (.seq q43_0 (.seq q43_1 (.seq (.seq q43_2 (.cond (.tmp 12) (.seq q43_3 .ret) .skip)) (.seq q43_4 .ret))))
theorem s43_strip : Yf (Yi Tryd.f43) = s43 := by kernel_rfl
theorem s43_ok : Yu 15 (Yi Tryd.f43) = true := by kernel_rfl
theorem s43_call [Tabs Tryd.prog] {args : List Value} {h : Zy} {Q : Value → Zy → Prop} (hsz : args.length ≤ 15) (hk : aw Tryd.prog 15 s43 (Zu Tryd.prog [.tmp 2, .tmp 3] Q) (Zp 0 args) h) : ACall Tryd.prog 43 args h Q :=
  Xp Tryd.func43 rfl (enters_of Tryd.func43 (by kernel_rfl) rfl) rfl rfl (by decide) s43_strip s43_ok hsz hk

/-! 44: planchet order.Dim -/
@[reducible] def q44_0 : SCode := .region [⟨some 2, .assign (.const (.int .i64 0)), none⟩,
    ⟨some 3, .assign (.const (.int .i64 0)), none⟩]
@[reducible] def q44_1 : SCode := .region [⟨some 7, .move (.tmp 0), none⟩,
    ⟨some 8, .call { callee := .value (.func 43), args := #[.tmp 7], argTypes := #[22] }, none⟩,
    ⟨some 6, .move (.tmp 8), none⟩,
    ⟨some 9, .extract (.tmp 6) 0, none⟩,
    ⟨some 10, .extract (.tmp 6) 1, none⟩,
    ⟨some 4, .assign (.tmp 9), none⟩,
    ⟨some 5, .assign (.tmp 10), none⟩]
@[reducible] def q44_2 : SCode := .region [⟨some 11, .move (.tmp 4), none⟩,
    ⟨some 12, .call { callee := .builtin .len, args := #[.tmp 11], argTypes := #[45] }, none⟩,
    ⟨some 13, .move (.tmp 5), none⟩,
    ⟨some 2, .assign (.tmp 12), none⟩,
    ⟨some 3, .assign (.tmp 13), none⟩]
def s44 : SCode := (.seq q44_0 (.seq q44_1 (.seq q44_2 .ret)))
theorem s44_strip : Yf (Yi Tryd.f44) = s44 := by kernel_rfl
theorem s44_ok : Yu 14 (Yi Tryd.f44) = true := by kernel_rfl
theorem s44_call [Tabs Tryd.prog] {args : List Value} {h : Zy} {Q : Value → Zy → Prop} (hsz : args.length ≤ 14) (hk : aw Tryd.prog 14 s44 (Zu Tryd.prog [.tmp 2, .tmp 3] Q) (Zp 0 args) h) : ACall Tryd.prog 44 args h Q :=
  Xp Tryd.func44 rfl (enters_of Tryd.func44 (by kernel_rfl) rfl) rfl rfl (by decide) s44_strip s44_ok hsz hk

/-! 80: (planchet order.order).realizer -/
@[reducible] def q80_0 : SCode := .region [⟨some 1, .box 77 (.tmp 0), none⟩,
    ⟨some 2, .assign (.const (.slice none 0 0)), none⟩]
@[reducible] def q80_1 : SCode := .region [⟨some 15, .load 77 (.tmp 1), none⟩,
    ⟨some 16, .call { callee := .value (.func 75), args := #[.tmp 15], argTypes := #[77] }, none⟩,
    ⟨some 3, .alloc 45, none⟩,
    ⟨none, .store 45 (.tmp 3) (.tmp 16), none⟩]
@[reducible] def q80_2 : SCode := .region [⟨some 4, .alloc 120, none⟩]
@[reducible] def q80_3 : SCode := .region [⟨some 17, .load 45 (.tmp 3), none⟩,
    ⟨some 18, .call { callee := .builtin .len, args := #[.tmp 17], argTypes := #[45] }, none⟩,
    ⟨some 19, .move (.const (.int .i64 0)), none⟩]
@[reducible] def q80_4 : SCode := .region [⟨some 20, .binOp .lss 3 (.tmp 19) (.tmp 18) 3, none⟩]
@[reducible] def q80_5 : SCode := .region [⟨some 21, .indexAddr 45 (.tmp 17) (.tmp 19), none⟩,
    ⟨some 22, .load 22 (.tmp 21), none⟩,
    ⟨some 6, .assign (.tmp 22), none⟩]
def q80_6 : SCode := .draw [⟨some 23, .load 120 (.tmp 4), none⟩,
    ⟨some 24, .move (.tmp 6), none⟩,
    ⟨some 25, .call { callee := .value (.func 105), args := #[.tmp 24], argTypes := #[22] }, none⟩,
    ⟨some 26, .buildSlice 120 1 #[(0, .tmp 25)], none⟩,
    ⟨some 27, .call { callee := .builtin .append, args := #[.tmp 23, .tmp 26], argTypes := #[120, 120] }, none⟩,
    ⟨none, .store 120 (.tmp 4) (.tmp 27), none⟩]
   [[], [], [1], [2], [0, 3, 2], [4, 4, 0, 1, 2, 3, 4]]
@[reducible] def q80_7 : SCode := .region [⟨some 28, .binOp .add 3 (.tmp 19) (.const (.int .i64 1)) 3, none⟩,
    ⟨some 19, .move (.tmp 28), none⟩]
def l80_0 : SCode := (.seq q80_4 (.seq (.cond (.tmp 20) .skip (.exit 0)) (.seq (.block 1 (.seq q80_5 q80_6)) q80_7)))
@[reducible] def q80_8 : SCode := .region [⟨some 7, .alloc 22, none⟩]
@[reducible] def q80_9 : SCode := .region [⟨some 8, .alloc 123, none⟩]
@[reducible] def q80_10 : SCode := .region [⟨some 29, .makeFunc (.func 106) #[] #[.tmp 1, .tmp 3, .tmp 4, .tmp 7, .tmp 8], none⟩,
    ⟨none, .store 123 (.tmp 8) (.tmp 29), none⟩]
@[reducible] def q80_11 : SCode := .region [⟨some 9, .alloc 121, none⟩]
@[reducible] def q80_12 : SCode := .region [⟨some 30, .fieldAddr 77 (.tmp 1) 0, none⟩,
    ⟨some 31, .load 3 (.tmp 30), none⟩,
    ⟨some 32, .move (.const (.int .i64 0)), none⟩]
@[reducible] def q80_13 : SCode := .region [⟨some 33, .binOp .lss 3 (.tmp 32) (.tmp 31) 3, none⟩]
@[reducible] def q80_14 : SCode := .region [⟨some 34, .move (.tmp 32), none⟩,
    ⟨some 10, .assign (.tmp 34), none⟩]
@[reducible] def q80_15 : SCode := .region [⟨some 35, .move (.tmp 10), none⟩,
    ⟨some 36, .load 77 (.tmp 1), none⟩,
    ⟨some 37, .call { callee := .value (.func 98), args := #[.tmp 36], argTypes := #[77] }, none⟩,
    ⟨some 38, .indexAddr 121 (.tmp 9) (.tmp 35), none⟩,
    ⟨none, .store 3 (.tmp 38) (.tmp 37), none⟩]
@[reducible] def q80_16 : SCode := .region [⟨some 39, .binOp .add 3 (.tmp 32) (.const (.int .i64 1)) 3, none⟩,
    ⟨some 32, .move (.tmp 39), none⟩]
def l80_1 : SCode := (.seq q80_13 (.seq (.cond (.tmp 33) .skip (.exit 2)) (.seq (.block 3 (.seq q80_14 q80_15)) q80_16)))
@[reducible] def q80_17 : SCode := .region [⟨some 11, .assign (.const (.int .i64 1)), none⟩]
@[reducible] def q80_18 : SCode := .region [⟨some 40, .load 123 (.tmp 8), none⟩,
    ⟨some 41, .move (.tmp 11), none⟩,
    ⟨some 42, .load 121 (.tmp 9), none⟩,
    ⟨some 43, .call { callee := .value (.tmp 40), args := #[.const (.int .i64 0), .tmp 41, .tmp 42], argTypes := #[3, 3, 121] }, none⟩,
    ⟨some 44, .unOp .not 4 (.tmp 43), none⟩]
@[reducible] def q80_20 : SCode := .region [⟨none, .store 22 (.tmp 7) (.const (.slice none 0 0)), none⟩]
@[reducible] def q80_19 : SCode := .region [⟨some 45, .move (.tmp 11), none⟩,
    ⟨some 46, .binOp .add 3 (.tmp 45) (.const (.int .i64 1)) 3, none⟩,
    ⟨some 11, .assign (.tmp 46), none⟩]
def l80_2 : SCode := (.seq (.seq q80_18 (.cond (.tmp 44) .skip (.exit 4))) (.seq (.block 5 q80_20) q80_19))
@[reducible] def q80_21 : SCode := .region [⟨some 12, .assign (.const (.slice none 0 0)), none⟩]
@[reducible] def q80_22 : SCode := .region [⟨some 47, .load 22 (.tmp 7), none⟩,
    ⟨some 48, .call { callee := .builtin .len, args := #[.tmp 47], argTypes := #[22] }, none⟩,
    ⟨some 49, .move (.const (.int .i64 0)), none⟩]
@[reducible] def q80_23 : SCode := .region [⟨some 50, .binOp .lss 3 (.tmp 49) (.tmp 48) 3, none⟩]
@[reducible] def q80_24 : SCode := .region [⟨some 51, .indexAddr 22 (.tmp 47) (.tmp 49), none⟩,
    ⟨some 52, .load 3 (.tmp 51), none⟩,
    ⟨some 14, .assign (.tmp 52), none⟩]
@[reducible] def q80_25 : SCode := .region [⟨some 53, .move (.tmp 12), none⟩,
    ⟨some 54, .load 45 (.tmp 3), none⟩,
    ⟨some 55, .move (.tmp 14), none⟩,
    ⟨some 56, .indexAddr 45 (.tmp 54) (.tmp 55), none⟩,
    ⟨some 57, .load 22 (.tmp 56), none⟩,
    ⟨some 58, .buildSlice 45 1 #[(0, .tmp 57)], none⟩,
    ⟨some 59, .call { callee := .builtin .append, args := #[.tmp 53, .tmp 58], argTypes := #[45, 45] }, none⟩,
    ⟨some 12, .assign (.tmp 59), none⟩]
@[reducible] def q80_26 : SCode := .region [⟨some 60, .binOp .add 3 (.tmp 49) (.const (.int .i64 1)) 3, none⟩,
    ⟨some 49, .move (.tmp 60), none⟩]
def l80_3 : SCode := (.seq q80_23 (.seq (.cond (.tmp 50) .skip (.exit 6)) (.seq (.block 7 (.seq q80_24 q80_25)) q80_26)))
@[reducible] def q80_27 : SCode := .region [⟨some 61, .move (.tmp 12), none⟩,
    ⟨some 2, .assign (.tmp 61), none⟩]
def s80 : SCode := (.seq q80_0 (.seq q80_1 (.seq q80_2 (.seq (.seq q80_3 (.block 0 (.loop l80_0))) (.seq q80_8 (.seq q80_9 (.seq q80_10 (.seq q80_11 (.seq (.seq q80_12 (.block 2 (.loop l80_1))) (.seq (.seq q80_17 (.block 4 (.loop l80_2))) (.seq q80_21 (.seq (.seq q80_22 (.block 6 (.loop l80_3))) (.seq q80_27 .ret)))))))))))))
theorem s80_strip : Yf (Yi Tryd.f80) = s80 := by kernel_rfl
theorem s80_ok : Yu 62 (Yi Tryd.f80) = true := by kernel_rfl
/-! 105: planchet order.behind -/
@[reducible] def q105_0 : SCode := .region [⟨some 2, .alloc 121, none⟩]
@[reducible] def q105_1 : SCode := .region [⟨some 3, .alloc 121, none⟩]
@[reducible] def q105_2 : SCode := .region [⟨some 8, .move (.tmp 0), none⟩,
    ⟨some 9, .call { callee := .builtin .len, args := #[.tmp 8], argTypes := #[22] }, none⟩,
    ⟨some 10, .move (.const (.int .i64 0)), none⟩]
@[reducible] def q105_3 : SCode := .region [⟨some 11, .binOp .lss 3 (.tmp 10) (.tmp 9) 3, none⟩]
@[reducible] def q105_4 : SCode := .region [⟨some 12, .move (.tmp 10), none⟩,
    ⟨some 13, .indexAddr 22 (.tmp 8) (.tmp 10), none⟩,
    ⟨some 14, .load 3 (.tmp 13), none⟩,
    ⟨some 4, .assign (.tmp 12), none⟩,
    ⟨some 5, .assign (.tmp 14), none⟩]
@[reducible] def q105_5 : SCode := .region [⟨some 15, .move (.tmp 0), none⟩,
    ⟨some 16, .move (.tmp 4), none⟩,
    ⟨some 17, .binOp .add 3 (.tmp 16) (.const (.int .i64 1)) 3, none⟩,
    ⟨some 18, .slice 22 (.tmp 15) (some (.tmp 17)) none none, none⟩,
    ⟨some 19, .call { callee := .builtin .len, args := #[.tmp 18], argTypes := #[22] }, none⟩,
    ⟨some 20, .move (.const (.int .i64 0)), none⟩]
@[reducible] def q105_6 : SCode := .region [⟨some 21, .binOp .lss 3 (.tmp 20) (.tmp 19) 3, none⟩]
@[reducible] def q105_7 : SCode := .region [⟨some 22, .indexAddr 22 (.tmp 18) (.tmp 20), none⟩,
    ⟨some 23, .load 3 (.tmp 22), none⟩,
    ⟨some 7, .assign (.tmp 23), none⟩]
def q105_8 : SCode := .draw [⟨some 24, .move (.tmp 5), none⟩,
    ⟨some 25, .indexAddr 121 (.tmp 3) (.tmp 24), none⟩,
    ⟨some 26, .load 3 (.tmp 25), none⟩,
    ⟨some 27, .move (.tmp 7), none⟩,
    ⟨some 28, .binOp .shl 3 (.const (.int .i64 1)) (.tmp 27) 3, none⟩,
    ⟨some 29, .binOp .or 3 (.tmp 26) (.tmp 28) 3, none⟩,
    ⟨some 30, .indexAddr 121 (.tmp 3) (.tmp 24), none⟩,
    ⟨none, .store 3 (.tmp 30) (.tmp 29), none⟩]
   [[], [0], [1], [], [3], [2, 4], [0, 0, 1, 2, 3, 4, 5], [6, 5, 0, 1, 2, 3, 4, 5]]
@[reducible] def q105_9 : SCode := .region [⟨some 31, .binOp .add 3 (.tmp 20) (.const (.int .i64 1)) 3, none⟩,
    ⟨some 20, .move (.tmp 31), none⟩]
def l105_0 : SCode := (.seq q105_6 (.seq (.cond (.tmp 21) .skip (.exit 2)) (.seq (.block 3 (.seq q105_7 q105_8)) q105_9)))
@[reducible] def q105_10 : SCode := .region [⟨some 32, .binOp .add 3 (.tmp 10) (.const (.int .i64 1)) 3, none⟩,
    ⟨some 10, .move (.tmp 32), none⟩]
def l105_1 : SCode := (.seq q105_3 (.seq (.cond (.tmp 11) .skip (.exit 0)) (.seq (.block 1 (.seq q105_4 (.seq q105_5 (.block 2 (.loop l105_0))))) q105_10)))
@[reducible] def q105_11 : SCode := .region [⟨some 33, .load 121 (.tmp 3), none⟩,
    ⟨none, .store 121 (.tmp 2) (.tmp 33), none⟩]
def s105 : SCode := (.seq q105_0 (.seq q105_1 (.seq (.seq q105_2 (.block 0 (.loop l105_1))) (.seq q105_11 .ret))))
theorem s105_strip : Yf (Yi Tryd.f105) = s105 := by kernel_rfl
theorem s105_ok : Yu 34 (Yi Tryd.f105) = true := by kernel_rfl
/-! 106: (planchet order.order).realizer$1 -/
@[reducible] def q106_0 : SCode := .region [⟨some 10, .box 121 (.tmp 2), none⟩,
    ⟨some 11, .assign (.const (.bool false)), none⟩]
@[reducible] def q106_1 : SCode := .region [⟨some 15, .move (.tmp 1), none⟩,
    ⟨some 16, .binOp .eql 3 (.tmp 15) (.const (.int .i64 0)) 3, none⟩]
@[reducible] def q106_2 : SCode := .region [⟨some 17, .load 121 (.tmp 10), none⟩,
    ⟨some 18, .fieldAddr 77 (.tmp 3) 1, none⟩,
    ⟨some 19, .load 75 (.tmp 18), none⟩,
    ⟨some 20, .binOp .eql 121 (.tmp 17) (.tmp 19) 121, none⟩,
    ⟨some 11, .assign (.tmp 20), none⟩]
@[reducible] def q106_3 : SCode := .region [⟨some 21, .move (.tmp 0), none⟩,
    ⟨some 12, .assign (.tmp 21), none⟩]
@[reducible] def q106_4 : SCode := .region [⟨some 22, .move (.tmp 12), none⟩,
    ⟨some 23, .load 45 (.tmp 4), none⟩,
    ⟨some 24, .call { callee := .builtin .len, args := #[.tmp 23], argTypes := #[45] }, none⟩,
    ⟨some 25, .binOp .lss 3 (.tmp 22) (.tmp 24) 3, none⟩]
@[reducible] def q106_6 : SCode := .region [⟨some 28, .load 121 (.tmp 10), none⟩,
    ⟨some 13, .alloc 121, none⟩,
    ⟨none, .store 121 (.tmp 13) (.tmp 28), none⟩]
@[reducible] def q106_7 : SCode := .region [⟨some 29, .move (.const (.int .i64 0)), none⟩]
@[reducible] def q106_8 : SCode := .region [⟨some 30, .binOp .lss 3 (.tmp 29) (.const (.int .i64 6)) 3, none⟩]
@[reducible] def q106_9 : SCode := .region [⟨some 31, .move (.tmp 29), none⟩,
    ⟨some 14, .assign (.tmp 31), none⟩]
def q106_10 : SCode := .draw [⟨some 32, .move (.tmp 14), none⟩,
    ⟨some 33, .indexAddr 121 (.tmp 13) (.tmp 32), none⟩,
    ⟨some 34, .load 3 (.tmp 33), none⟩,
    ⟨some 35, .load 120 (.tmp 5), none⟩,
    ⟨some 36, .move (.tmp 12), none⟩,
    ⟨some 37, .move (.tmp 14), none⟩,
    ⟨some 38, .indexAddr 120 (.tmp 35) (.tmp 36), none⟩,
    ⟨some 39, .indexAddr 121 (.tmp 38) (.tmp 37), none⟩,
    ⟨some 40, .load 3 (.tmp 39), none⟩,
    ⟨some 41, .binOp .and 3 (.tmp 34) (.tmp 40) 3, none⟩,
    ⟨some 42, .indexAddr 121 (.tmp 13) (.tmp 32), none⟩,
    ⟨none, .store 3 (.tmp 42) (.tmp 41), none⟩]
   [[], [0], [1], [], [], [], [3, 4], [6, 5], [7], [2, 8], [0, 0, 1, 2, 3, 4, 5, 6, 7, 8, 9], [10, 9, 0, 1, 2, 3, 4, 5, 6, 7, 8, 9]]
@[reducible] def q106_11 : SCode := .region [⟨some 43, .binOp .add 3 (.tmp 29) (.const (.int .i64 1)) 3, none⟩,
    ⟨some 29, .move (.tmp 43), none⟩]
def l106_0 : SCode := (.seq q106_8 (.seq (.cond (.tmp 30) .skip (.exit 2)) (.seq (.block 3 (.seq q106_9 q106_10)) q106_11)))
@[reducible] def q106_12 : SCode := .region [⟨some 44, .move (.tmp 1), none⟩,
    ⟨some 45, .binOp .eql 3 (.tmp 44) (.const (.int .i64 1)) 3, none⟩,
    ⟨some 46, .move (.tmp 45), none⟩,
    ⟨some 47, .load 121 (.tmp 13), some (46, true)⟩,
    ⟨some 48, .fieldAddr 77 (.tmp 3) 1, some (46, true)⟩,
    ⟨some 49, .load 75 (.tmp 48), some (46, true)⟩,
    ⟨some 50, .binOp .neq 121 (.tmp 47) (.tmp 49) 121, some (46, true)⟩,
    ⟨some 51, .pick (.tmp 46) (.tmp 50) (.const (.bool false)), none⟩]
@[reducible] def q106_13 : SCode := .region [⟨some 52, .load 22 (.tmp 6), none⟩,
    ⟨some 53, .move (.tmp 12), none⟩,
    ⟨some 54, .buildSlice 22 1 #[(0, .tmp 53)], none⟩,
    ⟨some 55, .call { callee := .builtin .append, args := #[.tmp 52, .tmp 54], argTypes := #[22, 22] }, none⟩,
    ⟨none, .store 22 (.tmp 6) (.tmp 55), none⟩]
@[reducible] def q106_14 : SCode := .region [⟨some 56, .load 123 (.tmp 7), none⟩,
    ⟨some 57, .move (.tmp 12), none⟩,
    ⟨some 58, .binOp .add 3 (.tmp 57) (.const (.int .i64 1)) 3, none⟩,
    ⟨some 59, .move (.tmp 1), none⟩,
    ⟨some 60, .binOp .sub 3 (.tmp 59) (.const (.int .i64 1)) 3, none⟩,
    ⟨some 61, .load 121 (.tmp 13), none⟩,
    ⟨some 62, .call { callee := .value (.tmp 56), args := #[.tmp 58, .tmp 60, .tmp 61], argTypes := #[3, 3, 121] }, none⟩]
@[reducible] def q106_15 : SCode := .region [⟨some 11, .assign (.const (.bool true)), none⟩]
@[reducible] def q106_16 : SCode := .region [⟨some 63, .load 22 (.tmp 6), none⟩,
    ⟨some 64, .load 22 (.tmp 6), none⟩,
    ⟨some 65, .call { callee := .builtin .len, args := #[.tmp 64], argTypes := #[22] }, none⟩,
    ⟨some 66, .binOp .sub 3 (.tmp 65) (.const (.int .i64 1)) 3, none⟩,
    ⟨some 67, .slice 22 (.tmp 63) none (some (.tmp 66)) none, none⟩,
    ⟨none, .store 22 (.tmp 6) (.tmp 67), none⟩]
@[reducible] def q106_5 : SCode := .region [⟨some 26, .move (.tmp 12), none⟩,
    ⟨some 27, .binOp .add 3 (.tmp 26) (.const (.int .i64 1)) 3, none⟩,
    ⟨some 12, .assign (.tmp 27), none⟩]
def l106_1 : SCode := (.seq (.seq q106_4 (.cond (.tmp 25) .skip (.exit 0))) (.seq (.block 1 (.seq q106_6 (.seq (.seq q106_7 (.block 2 (.loop l106_0))) (.seq (.seq q106_12 (.cond (.tmp 51) (.exit 1) .skip)) (.seq q106_13 (.seq (.seq q106_14 (.cond (.tmp 62) (.seq q106_15 .ret) .skip)) q106_16)))))) q106_5))
@[reducible] def q106_17 : SCode := .region [⟨some 11, .assign (.const (.bool false)), none⟩]
def s106 : SCode := (.seq q106_0 (.seq (.seq q106_1 (.cond (.tmp 16) (.seq q106_2 .ret) .skip)) (.seq (.seq q106_3 (.block 0 (.loop l106_1))) (.seq q106_17 .ret))))
theorem s106_strip : Yf (Yi Tryd.f106) = s106 := by kernel_rfl
theorem s106_ok : Yu 68 (Yi Tryd.f106) = true := by kernel_rfl
end Go.Proofs.Tryd.Am

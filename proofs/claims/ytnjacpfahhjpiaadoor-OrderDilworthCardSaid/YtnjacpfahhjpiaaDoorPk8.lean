/-
  order: Ideals, Anti.
  order: the fewest chains, by the reference and by the program.
  order: Chains.
  Printed by gen.py: the code of some functions, without what no step looks at; held against the program's own by the kernel.
  order: slices of pairs: copies, whether they are pairs of elements.
  order: Close.
  order: the reference's Close.
  order: the reference's Add; how many lines have one element before another one; the most even pair.
  order: the law OrderMakes.
-/
import Derived.Test.YtnjacpfahhjpiaaDoorPk7
import Derived.Test.YtnjacpfahhjpiaaDoorPk3
import Derived.Test.YtnjacpfahhjpiaaDoorProg
import Derived.KernelRfl
import Derived.Shelf.Abstract
import Derived.Test.YtnjacpfahhjpiaaDoorPk6
import Derived.Test.YtnjacpfahhjpiaaDoorPk4
import Derived.Test.YtnjacpfahhjpiaaDoorPk5
set_option linter.all false
namespace Go.Proofs.Tryd.Am
open Go.Am Ord
set_option maxRecDepth 100000
set_option maxHeartbeats 2000000

theorem filter_len (p : Nat → Bool) (s : Nat) : ((List.range s).filter p).length ≤ s := by
  have := List.length_filter_le p (List.range s)
  rwa [List.length_range] at this
theorem all_add {n : Nat} (h : n ≤ 6) : addV .i64 ((2 ^ n - 1 : Nat) : Int) 1 = ((2 ^ n : Nat) : Int) := by
  have hp := pow6 h
  rw [add1 (by omega)]; omega
theorem s83_callW [Tabs Tryd.prog] {args : List Value} {h : Zx} {Q : Value → Zx → Prop} (hsz : args.length ≤ 22) (hk : AWS Tryd.prog 22 s83 (Zu Tryd.prog [.tmp 4] Q) (Zp 0 args) h) : ACall Tryd.prog 83 args h Q :=
  Wa Tryd.func83 rfl (enters_of Tryd.func83 (by kernel_rfl) rfl) rfl rfl (by decide) s83_strip s83_ok hsz hk
theorem sets_call [BitTab prog 1] {h : Zx} {o : List Int} {fn : Nat} {cap : Array Value} (ho : ord o = true) (p : Nat → Bool) (hf : ∀ s h', s < 2 ^ o.length → Ext (fun _ => False) h h' → Wv prog fn (([] : List Value) ++ [Yb (s : Nat)] ++ cap.toList) h' (.bool (p s))) :
    ACall prog 83 [ordV o, .func (.func fn) #[] cap] h fun r h' => OwnSl 3 h' r (iL (setsL o p)) ∧ Ext (fun _ => False) h h' ∧ ∀ b, Yy r = some b → h.length ≤ b := by
  have hl := Yx ho
  have hp := pow6 hl.2
  obtain ⟨H0, hH0⟩ : ∃ H, H = h ++ [Blk.cells (Wx o) 77 false] := ⟨_, rfl⟩
  have hE0 : Ext (fun _ => False) h H0 := by rw [hH0]; exact Ext.app _ _ _
  have b2 : H0[h.length]? = some (.cells (Wx o) 77 false) := by rw [hH0]; exact Xc _ _
  refine s83_callW (by simp) ?_
  simp only [s83]
  refine Yc fun N1 hN1 => ?_
  simp (maxSteps := 2000000) only [s83, ↓Za, ↓Zj, ↓Zr, ↓Ze, ↓Zl, ↓Zs, ↓Zf, ↓Zm, ↓Zg, ↓Zb, ↓Zc, ↓vdn, vup, Zk, Zo, Zn, Zi, Zh, List.map_cons, List.map_nil, cond_true, cond_false, aop, Zv, Zq, Zp, ev, sput, Zt, Zy, Ya, unK, Zd, Zw, Nat.reduceBEq, Nat.reduceAdd, Int.reduceBEq, Int.reduceBNe, Int.reduceLT, Zu, Zz, tup, tyf, boxO esz_77, Wk]
  rw [← hH0]
  refine hN1 [(1, .func (.func fn) #[] cap), (2, .pointer (some ⟨h.length, 0, none⟩)), (4, .slice none 0 0)] _ _ ?_ (by simp (maxSteps := 2000000) only [↓Za, ↓Zj, ↓Zr, ↓Ze, ↓Zl, ↓Zs, ↓Zf, ↓Zm, ↓Zg, ↓Zb, ↓Zc, ↓vdn, vup, Zk, Zo, Zn, Zi, Zh, List.map_cons, List.map_nil, cond_true, cond_false, aop, Zv, Zq, Zp, ev, sput, Zt, Zy, Ya, unK, Zd, Zw, Nat.reduceBEq, Nat.reduceAdd, Int.reduceBEq, Int.reduceBNe, Int.reduceLT, Zu, Zz, tup, tyf])
  clear hN1
  try clear N1
  refine Yc fun N2 hN2 => ?_
  simp (maxSteps := 2000000) only [s83, ↓Za, ↓Zj, ↓Zr, ↓Ze, ↓Zl, ↓Zs, ↓Zf, ↓Zm, ↓Zg, ↓Zb, ↓Zc, ↓vdn, vup, Zk, Zo, Zn, Zi, Zh, List.map_cons, List.map_nil, cond_true, cond_false, aop, Zv, Zq, Zp, ev, sput, Zt, Zy, Ya, unK, Zd, Zw, Nat.reduceBEq, Nat.reduceAdd, Int.reduceBEq, Int.reduceBNe, Int.reduceLT, Zu, Zz, tup, tyf]
  refine hN2 [(1, .func (.func fn) #[] cap), (2, .pointer (some ⟨h.length, 0, none⟩)), (4, .slice none 0 0), (5, .slice none 0 0)] _ _ ?_ (by simp (maxSteps := 2000000) only [↓Za, ↓Zj, ↓Zr, ↓Ze, ↓Zl, ↓Zs, ↓Zf, ↓Zm, ↓Zg, ↓Zb, ↓Zc, ↓vdn, vup, Zk, Zo, Zn, Zi, Zh, List.map_cons, List.map_nil, cond_true, cond_false, aop, Zv, Zq, Zp, ev, sput, Zt, Zy, Ya, unK, Zd, Zw, Nat.reduceBEq, Nat.reduceAdd, Int.reduceBEq, Int.reduceBNe, Int.reduceLT, Zu, Zz, tup, tyf])
  clear hN2
  try clear N2
  refine Yu fun Z hZ => ?_
  refine Yc fun N3 hN3 => ?_
  simp (maxSteps := 2000000) only [s83, ↓Za, ↓Zj, ↓Zr, ↓Ze, ↓Zl, ↓Zs, ↓Zf, ↓Zm, ↓Zg, ↓Zb, ↓Zc, ↓vdn, vup, Zk, Zo, Zn, Zi, Zh, List.map_cons, List.map_nil, cond_true, cond_false, aop, Zv, Zq, Zp, ev, sput, Zt, Zy, Ya, unK, Zd, Zw, Nat.reduceBEq, Nat.reduceAdd, Int.reduceBEq, Int.reduceBNe, Int.reduceLT, Zu, Zz, tup, tyf, Yr, List.nil_append, List.append_nil, List.toList_toArray, List.cons_append, loadO b2 Xa hl.2]
  refine (all_call hl.2).mono ?_
  rintro _ H0 ⟨rfl, rfl⟩
  simp (maxSteps := 2000000) only [s83, ↓Za, ↓Zj, ↓Zr, ↓Ze, ↓Zl, ↓Zs, ↓Zf, ↓Zm, ↓Zg, ↓Zb, ↓Zc, ↓vdn, vup, Zk, Zo, Zn, Zi, Zh, List.map_cons, List.map_nil, cond_true, cond_false, aop, Zv, Zq, Zp, ev, sput, Zt, Zy, Ya, unK, Zd, Zw, Nat.reduceBEq, Nat.reduceAdd, Int.reduceBEq, Int.reduceBNe, Int.reduceLT, Zu, Zz, tup, tyf, all_add hl.2]
  refine hN3 [(1, .func (.func fn) #[] cap), (2, .pointer (some ⟨h.length, 0, none⟩)), (4, .slice none 0 0), (5, .slice none 0 0), (9, Yb ((2 ^ o.length : Nat) : Nat)), (10, .int .i64 0)] _ _ ?_ (by simp (maxSteps := 2000000) only [↓Za, ↓Zj, ↓Zr, ↓Ze, ↓Zl, ↓Zs, ↓Zf, ↓Zm, ↓Zg, ↓Zb, ↓Zc, ↓vdn, vup, Zk, Zo, Zn, Zi, Zh, List.map_cons, List.map_nil, cond_true, cond_false, aop, Zv, Zq, Zp, ev, sput, Zt, Zy, Ya, unK, Zd, Zw, Nat.reduceBEq, Nat.reduceAdd, Int.reduceBEq, Int.reduceBNe, Int.reduceLT, Zu, Zz, tup, tyf])
  clear hN3
  try clear N3
  refine Yp ?_
  refine Yo fun Q hQ => ?_
  refine Wm (γ := Nat × Value × Zx) (fun g => g.1 ≤ 2 ^ o.length ∧ OwnSl 3 g.2.2 g.2.1 (iL ((List.range g.1).filter p)) ∧ Ext (fun _ => False) h g.2.2 ∧ ∀ b, Yy g.2.1 = some b → h.length ≤ b)
    (fun g => ([(1, .func (.func fn) #[] cap), (2, .pointer (some ⟨h.length, 0, none⟩)), (4, .slice none 0 0), (5, g.2.1), (9, Yb ((2 ^ o.length : Nat) : Nat)), (10, Yb (g.1 : Nat))], g.2.2)) (fun g => 2 ^ o.length - g.1) (0, .slice none 0 0, H0) ⟨Nat.zero_le _, .inl ⟨rfl, rfl⟩, hE0, fun b hb => by cases hb⟩ (by simp (maxSteps := 2000000) only [↓Za, ↓Zj, ↓Zr, ↓Ze, ↓Zl, ↓Zs, ↓Zf, ↓Zm, ↓Zg, ↓Zb, ↓Zc, ↓vdn, vup, Zk, Zo, Zn, Zi, Zh, List.map_cons, List.map_nil, cond_true, cond_false, aop, Zv, Zq, Zp, ev, sput, Zt, Zy, Ya, unK, Zd, Zw, Nat.reduceBEq, Nat.reduceAdd, Int.reduceBEq, Int.reduceBNe, Int.reduceLT, Zu, Zz, tup, tyf, Int.natCast_zero]) rfl ?_
  rintro ⟨s, w, H⟩ ⟨hs, how, hEH, hbw⟩
  simp only at hs how hEH hbw
  refine Yo fun Q2 hQ2 => ?_
  simp only [l83_0]
  by_cases hin : (s : Int) < ((2 ^ o.length : Nat) : Int)
  · have hs' : s < 2 ^ o.length := by omega
    have hfs := filter_succ (p := p) s
    have hfl := filter_len p s
    refine Yc fun N4 hN4 => ?_
    simp (maxSteps := 2000000) only [s83, ↓Za, ↓Zj, ↓Zr, ↓Ze, ↓Zl, ↓Zs, ↓Zf, ↓Zm, ↓Zg, ↓Zb, ↓Zc, ↓vdn, vup, Zk, Zo, Zn, Zi, Zh, List.map_cons, List.map_nil, cond_true, cond_false, aop, Zv, Zq, Zp, ev, sput, Zt, Zy, Ya, unK, Zd, Zw, Nat.reduceBEq, Nat.reduceAdd, Int.reduceBEq, Int.reduceBNe, Int.reduceLT, Zu, Zz, tup, tyf, hin]
    refine hN4 [(1, .func (.func fn) #[] cap), (2, .pointer (some ⟨h.length, 0, none⟩)), (4, .slice none 0 0), (5, w), (9, Yb ((2 ^ o.length : Nat) : Nat)), (10, Yb (s : Nat)), (11, .bool true)] _ _ ?_ (by simp (maxSteps := 2000000) only [↓Za, ↓Zj, ↓Zr, ↓Ze, ↓Zl, ↓Zs, ↓Zf, ↓Zm, ↓Zg, ↓Zb, ↓Zc, ↓vdn, vup, Zk, Zo, Zn, Zi, Zh, List.map_cons, List.map_nil, cond_true, cond_false, aop, Zv, Zq, Zp, ev, sput, Zt, Zy, Ya, unK, Zd, Zw, Nat.reduceBEq, Nat.reduceAdd, Int.reduceBEq, Int.reduceBNe, Int.reduceLT, Zu, Zz, tup, tyf])
    clear hN4
    try clear N4
    refine Yc fun N5 hN5 => ?_
    simp (maxSteps := 2000000) only [s83, ↓Za, ↓Zj, ↓Zr, ↓Ze, ↓Zl, ↓Zs, ↓Zf, ↓Zm, ↓Zg, ↓Zb, ↓Zc, ↓vdn, vup, Zk, Zo, Zn, Zi, Zh, List.map_cons, List.map_nil, cond_true, cond_false, aop, Zv, Zq, Zp, ev, sput, Zt, Zy, Ya, unK, Zd, Zw, Nat.reduceBEq, Nat.reduceAdd, Int.reduceBEq, Int.reduceBNe, Int.reduceLT, Zu, Zz, tup, tyf]
    refine hN5 [(1, .func (.func fn) #[] cap), (2, .pointer (some ⟨h.length, 0, none⟩)), (4, .slice none 0 0), (5, w), (9, Yb ((2 ^ o.length : Nat) : Nat)), (10, Yb (s : Nat))] _ _ ?_ (by simp (maxSteps := 2000000) only [↓Za, ↓Zj, ↓Zr, ↓Ze, ↓Zl, ↓Zs, ↓Zf, ↓Zm, ↓Zg, ↓Zb, ↓Zc, ↓vdn, vup, Zk, Zo, Zn, Zi, Zh, List.map_cons, List.map_nil, cond_true, cond_false, aop, Zv, Zq, Zp, ev, sput, Zt, Zy, Ya, unK, Zd, Zw, Nat.reduceBEq, Nat.reduceAdd, Int.reduceBEq, Int.reduceBNe, Int.reduceLT, Zu, Zz, tup, tyf])
    clear hN5
    try clear N5
    refine Yu fun B hB => ?_
    refine Yp ?_
    refine Yc fun N6 hN6 => ?_
    simp (maxSteps := 2000000) only [s83, ↓Za, ↓Zj, ↓Zr, ↓Ze, ↓Zl, ↓Zs, ↓Zf, ↓Zm, ↓Zg, ↓Zb, ↓Zc, ↓vdn, vup, Zk, Zo, Zn, Zi, Zh, List.map_cons, List.map_nil, cond_true, cond_false, aop, Zv, Zq, Zp, ev, sput, Zt, Zy, Ya, unK, Zd, Zw, Nat.reduceBEq, Nat.reduceAdd, Int.reduceBEq, Int.reduceBNe, Int.reduceLT, Zu, Zz, tup, tyf]
    refine hN6 [(1, .func (.func fn) #[] cap), (2, .pointer (some ⟨h.length, 0, none⟩)), (4, .slice none 0 0), (5, w), (6, Yb (s : Nat)), (9, Yb ((2 ^ o.length : Nat) : Nat)), (10, Yb (s : Nat))] _ _ ?_ (by simp (maxSteps := 2000000) only [↓Za, ↓Zj, ↓Zr, ↓Ze, ↓Zl, ↓Zs, ↓Zf, ↓Zm, ↓Zg, ↓Zb, ↓Zc, ↓vdn, vup, Zk, Zo, Zn, Zi, Zh, List.map_cons, List.map_nil, cond_true, cond_false, aop, Zv, Zq, Zp, ev, sput, Zt, Zy, Ya, unK, Zd, Zw, Nat.reduceBEq, Nat.reduceAdd, Int.reduceBEq, Int.reduceBNe, Int.reduceLT, Zu, Zz, tup, tyf])
    clear hN6
    try clear N6
    refine Yc fun N7 hN7 => ?_
    simp (maxSteps := 2000000) only [s83, ↓Za, ↓Zj, ↓Zr, ↓Ze, ↓Zl, ↓Zs, ↓Zf, ↓Zm, ↓Zg, ↓Zb, ↓Zc, ↓vdn, vup, Zk, Zo, Zn, Zi, Zh, List.map_cons, List.map_nil, cond_true, cond_false, aop, Zv, Zq, Zp, ev, sput, Zt, Zy, Ya, unK, Zd, Zw, Nat.reduceBEq, Nat.reduceAdd, Int.reduceBEq, Int.reduceBNe, Int.reduceLT, Zu, Zz, tup, tyf, Yr]
    refine (hf s H hs' hEH).mono ?_
    rintro _ H ⟨rfl, rfl⟩
    refine hN7 [(1, .func (.func fn) #[] cap), (2, .pointer (some ⟨h.length, 0, none⟩)), (4, .slice none 0 0), (5, w), (6, Yb (s : Nat)), (9, Yb ((2 ^ o.length : Nat) : Nat)), (10, Yb (s : Nat)), (15, .bool (p s))] _ _ ?_ (by simp (maxSteps := 2000000) only [↓Za, ↓Zj, ↓Zr, ↓Ze, ↓Zl, ↓Zs, ↓Zf, ↓Zm, ↓Zg, ↓Zb, ↓Zc, ↓vdn, vup, Zk, Zo, Zn, Zi, Zh, List.map_cons, List.map_nil, cond_true, cond_false, aop, Zv, Zq, Zp, ev, sput, Zt, Zy, Ya, unK, Zd, Zw, Nat.reduceBEq, Nat.reduceAdd, Int.reduceBEq, Int.reduceBNe, Int.reduceLT, Zu, Zz, tup, tyf])
    clear hN7
    try clear N7
    cases hid : p s with
    | true =>
      rw [hid, if_pos rfl] at hfs
      refine Ws rfl ?_
      refine Yj ?_
      simp (maxSteps := 2000000) only [s83, ↓Za, ↓Zj, ↓Zr, ↓Ze, ↓Zl, ↓Zs, ↓Zf, ↓Zm, ↓Zg, ↓Zb, ↓Zc, ↓vdn, vup, Zk, Zo, Zn, Zi, Zh, List.map_cons, List.map_nil, cond_true, cond_false, aop, Zv, Zq, Zp, ev, sput, Zt, Zy, Ya, unK, Zd, Zw, Nat.reduceBEq, Nat.reduceAdd, Int.reduceBEq, Int.reduceBNe, Int.reduceLT, Zu, Zz, tup, tyf, litI1]
      refine OwnSl.append (x := (s : Int)) (how.ext (S := fun _ => False) (Ext.app _ _ _) (fun _ _ => id)) app_22_22 (by rw [iL_len]; omega) (Xc _ _) ?_
      intro w' G ho' hE' hb'
      rw [iL_snoc, ← hfs] at ho'
      have hE2 : Ext (fun _ => False) h G := ext_app hEH (H' := H ++ [Blk.ints [(s : Int)] 3 false]) (by simp) (fun q hq => List.getElem?_append_left (by have := hEH.1; omega)) (fun b hb => hbw b hb) hE'
      have hbw' : ∀ b, Yy w' = some b → h.length ≤ b := fun b hb => by
        rcases hb' with h1 | ⟨b', h1, h2⟩
        · exact hbw b (h1 ▸ hb)
        · rw [h1] at hb; cases hb
          rw [List.length_append] at h2
          have := hEH.1; omega
      refine hB [(1, .func (.func fn) #[] cap), (2, .pointer (some ⟨h.length, 0, none⟩)), (4, .slice none 0 0), (5, w'), (9, Yb ((2 ^ o.length : Nat) : Nat)), (10, Yb (s : Nat))] _ _ ?_ (by simp (maxSteps := 2000000) only [↓Za, ↓Zj, ↓Zr, ↓Ze, ↓Zl, ↓Zs, ↓Zf, ↓Zm, ↓Zg, ↓Zb, ↓Zc, ↓vdn, vup, Zk, Zo, Zn, Zi, Zh, List.map_cons, List.map_nil, cond_true, cond_false, aop, Zv, Zq, Zp, ev, sput, Zt, Zy, Ya, unK, Zd, Zw, Nat.reduceBEq, Nat.reduceAdd, Int.reduceBEq, Int.reduceBNe, Int.reduceLT, Zu, Zz, tup, tyf])
      clear hB
      try clear B
      refine Yj ?_
      simp (maxSteps := 2000000) only [s83, ↓Za, ↓Zj, ↓Zr, ↓Ze, ↓Zl, ↓Zs, ↓Zf, ↓Zm, ↓Zg, ↓Zb, ↓Zc, ↓vdn, vup, Zk, Zo, Zn, Zi, Zh, List.map_cons, List.map_nil, cond_true, cond_false, aop, Zv, Zq, Zp, ev, sput, Zt, Zy, Ya, unK, Zd, Zw, Nat.reduceBEq, Nat.reduceAdd, Int.reduceBEq, Int.reduceBNe, Int.reduceLT, Zu, Zz, tup, tyf, add1 (show s < 9223372036854775807 by omega)]
      exact hQ2 _ _ _ ⟨(s + 1, w', G), ⟨hs', ho', hE2, hbw'⟩, by simp only; omega, by simp (maxSteps := 2000000) only [↓Za, ↓Zj, ↓Zr, ↓Ze, ↓Zl, ↓Zs, ↓Zf, ↓Zm, ↓Zg, ↓Zb, ↓Zc, ↓vdn, vup, Zk, Zo, Zn, Zi, Zh, List.map_cons, List.map_nil, cond_true, cond_false, aop, Zv, Zq, Zp, ev, sput, Zt, Zy, Ya, unK, Zd, Zw, Nat.reduceBEq, Nat.reduceAdd, Int.reduceBEq, Int.reduceBNe, Int.reduceLT, Zu, Zz, tup, tyf], rfl⟩
    | false =>
      rw [hid, if_neg (by decide), List.append_nil] at hfs
      refine Xf rfl ?_
      refine Yj ?_
      simp (maxSteps := 2000000) only [s83, ↓Za, ↓Zj, ↓Zr, ↓Ze, ↓Zl, ↓Zs, ↓Zf, ↓Zm, ↓Zg, ↓Zb, ↓Zc, ↓vdn, vup, Zk, Zo, Zn, Zi, Zh, List.map_cons, List.map_nil, cond_true, cond_false, aop, Zv, Zq, Zp, ev, sput, Zt, Zy, Ya, unK, Zd, Zw, Nat.reduceBEq, Nat.reduceAdd, Int.reduceBEq, Int.reduceBNe, Int.reduceLT, Zu, Zz, tup, tyf]
      refine hB [(1, .func (.func fn) #[] cap), (2, .pointer (some ⟨h.length, 0, none⟩)), (4, .slice none 0 0), (5, w), (9, Yb ((2 ^ o.length : Nat) : Nat)), (10, Yb (s : Nat))] _ _ ?_ (by simp (maxSteps := 2000000) only [↓Za, ↓Zj, ↓Zr, ↓Ze, ↓Zl, ↓Zs, ↓Zf, ↓Zm, ↓Zg, ↓Zb, ↓Zc, ↓vdn, vup, Zk, Zo, Zn, Zi, Zh, List.map_cons, List.map_nil, cond_true, cond_false, aop, Zv, Zq, Zp, ev, sput, Zt, Zy, Ya, unK, Zd, Zw, Nat.reduceBEq, Nat.reduceAdd, Int.reduceBEq, Int.reduceBNe, Int.reduceLT, Zu, Zz, tup, tyf])
      clear hB
      try clear B
      refine Yj ?_
      simp (maxSteps := 2000000) only [s83, ↓Za, ↓Zj, ↓Zr, ↓Ze, ↓Zl, ↓Zs, ↓Zf, ↓Zm, ↓Zg, ↓Zb, ↓Zc, ↓vdn, vup, Zk, Zo, Zn, Zi, Zh, List.map_cons, List.map_nil, cond_true, cond_false, aop, Zv, Zq, Zp, ev, sput, Zt, Zy, Ya, unK, Zd, Zw, Nat.reduceBEq, Nat.reduceAdd, Int.reduceBEq, Int.reduceBNe, Int.reduceLT, Zu, Zz, tup, tyf, add1 (show s < 9223372036854775807 by omega)]
      exact hQ2 _ _ _ ⟨(s + 1, w, H), ⟨hs', by simp only; rw [hfs]; exact how, hEH, hbw⟩, by simp only; omega, by simp (maxSteps := 2000000) only [↓Za, ↓Zj, ↓Zr, ↓Ze, ↓Zl, ↓Zs, ↓Zf, ↓Zm, ↓Zg, ↓Zb, ↓Zc, ↓vdn, vup, Zk, Zo, Zn, Zi, Zh, List.map_cons, List.map_nil, cond_true, cond_false, aop, Zv, Zq, Zp, ev, sput, Zt, Zy, Ya, unK, Zd, Zw, Nat.reduceBEq, Nat.reduceAdd, Int.reduceBEq, Int.reduceBNe, Int.reduceLT, Zu, Zz, tup, tyf], rfl⟩
  · obtain rfl : s = 2 ^ o.length := by omega
    refine Yc fun N8 hN8 => ?_
    simp (maxSteps := 2000000) only [s83, ↓Za, ↓Zj, ↓Zr, ↓Ze, ↓Zl, ↓Zs, ↓Zf, ↓Zm, ↓Zg, ↓Zb, ↓Zc, ↓vdn, vup, Zk, Zo, Zn, Zi, Zh, List.map_cons, List.map_nil, cond_true, cond_false, aop, Zv, Zq, Zp, ev, sput, Zt, Zy, Ya, unK, Zd, Zw, Nat.reduceBEq, Nat.reduceAdd, Int.reduceBEq, Int.reduceBNe, Int.reduceLT, Zu, Zz, tup, tyf, hin]
    refine hN8 [(1, .func (.func fn) #[] cap), (2, .pointer (some ⟨h.length, 0, none⟩)), (4, .slice none 0 0), (5, w), (9, Yb ((2 ^ o.length : Nat) : Nat)), (10, Yb ((2 ^ o.length : Nat) : Nat)), (11, .bool false)] _ _ ?_ (by simp (maxSteps := 2000000) only [↓Za, ↓Zj, ↓Zr, ↓Ze, ↓Zl, ↓Zs, ↓Zf, ↓Zm, ↓Zg, ↓Zb, ↓Zc, ↓vdn, vup, Zk, Zo, Zn, Zi, Zh, List.map_cons, List.map_nil, cond_true, cond_false, aop, Zv, Zq, Zp, ev, sput, Zt, Zy, Ya, unK, Zd, Zw, Nat.reduceBEq, Nat.reduceAdd, Int.reduceBEq, Int.reduceBNe, Int.reduceLT, Zu, Zz, tup, tyf])
    clear hN8
    try clear N8
    refine Yc fun N9 hN9 => ?_
    simp (maxSteps := 2000000) only [s83, ↓Za, ↓Zj, ↓Zr, ↓Ze, ↓Zl, ↓Zs, ↓Zf, ↓Zm, ↓Zg, ↓Zb, ↓Zc, ↓vdn, vup, Zk, Zo, Zn, Zi, Zh, List.map_cons, List.map_nil, cond_true, cond_false, aop, Zv, Zq, Zp, ev, sput, Zt, Zy, Ya, unK, Zd, Zw, Nat.reduceBEq, Nat.reduceAdd, Int.reduceBEq, Int.reduceBNe, Int.reduceLT, Zu, Zz, tup, tyf]
    refine hQ2 _ _ _ (hQ _ _ _ ?_)
    simp (maxSteps := 2000000) only [s83, ↓Za, ↓Zj, ↓Zr, ↓Ze, ↓Zl, ↓Zs, ↓Zf, ↓Zm, ↓Zg, ↓Zb, ↓Zc, ↓vdn, vup, Zk, Zo, Zn, Zi, Zh, List.map_cons, List.map_nil, cond_true, cond_false, aop, Zv, Zq, Zp, ev, sput, Zt, Zy, Ya, unK, Zd, Zw, Nat.reduceBEq, Nat.reduceAdd, Int.reduceBEq, Int.reduceBNe, Int.reduceLT, Zu, Zz, tup, tyf, if_true]
    refine hZ [(1, .func (.func fn) #[] cap), (2, .pointer (some ⟨h.length, 0, none⟩)), (4, .slice none 0 0), (5, w)] _ _ ?_ (by simp (maxSteps := 2000000) only [↓Za, ↓Zj, ↓Zr, ↓Ze, ↓Zl, ↓Zs, ↓Zf, ↓Zm, ↓Zg, ↓Zb, ↓Zc, ↓vdn, vup, Zk, Zo, Zn, Zi, Zh, List.map_cons, List.map_nil, cond_true, cond_false, aop, Zv, Zq, Zp, ev, sput, Zt, Zy, Ya, unK, Zd, Zw, Nat.reduceBEq, Nat.reduceAdd, Int.reduceBEq, Int.reduceBNe, Int.reduceLT, Zu, Zz, tup, tyf])
    clear hZ
    try clear Z
    refine Yj ?_
    simp (maxSteps := 2000000) only [s83, ↓Za, ↓Zj, ↓Zr, ↓Ze, ↓Zl, ↓Zs, ↓Zf, ↓Zm, ↓Zg, ↓Zb, ↓Zc, ↓vdn, vup, Zk, Zo, Zn, Zi, Zh, List.map_cons, List.map_nil, cond_true, cond_false, aop, Zv, Zq, Zp, ev, sput, Zt, Zy, Ya, unK, Zd, Zw, Nat.reduceBEq, Nat.reduceAdd, Int.reduceBEq, Int.reduceBNe, Int.reduceLT, Zu, Zz, tup, tyf]
    exact ⟨how, hEH, hbw⟩

/-- What a function that hands back sets says. -/
def SetsIs (o : List Int) (L : List Nat) (h' : Zx) (x : Value) (e : Int) : Prop := if ord o = true then e = 0 ∧ OwnSl 3 h' x (iL L) else x = .slice none 0 0 ∧ e = 2
theorem ideals_call [BitTab prog 1] {h : Zx} {v : Value} {o : List Int} (hv : IntSl h v o) (hl : o.length < 9223372036854775808) (hx : ∀ x ∈ o, -9223372036854775808 ≤ x ∧ x < 9223372036854775808) :
    ACall prog 58 [v] h fun r h' => Ext (fun _ => False) h h' ∧ ∃ x e, r = .tuple #[x, .int .i64 e] ∧ SetsIs o (setsL o (idl o)) h' x e := by
  refine s58_call (by simp) ?_
  simp only [s58]
  simp (maxSteps := 2000000) only [s58, ↓Za, ↓Zj, ↓Zr, ↓Ze, ↓Zl, ↓Zs, ↓Zf, ↓Zm, ↓Zg, ↓Zb, ↓Zc, ↓vdn, vup, Zk, Zo, Zn, Zi, Zh, List.map_cons, List.map_nil, cond_true, cond_false, aop, Zv, Zq, Zp, ev, sput, Zt, Zy, Ya, unK, Zd, Zw, Nat.reduceBEq, Nat.reduceAdd, Int.reduceBEq, Int.reduceBNe, Int.reduceLT, Zu, Zz, tup, tyf, Yr, List.nil_append, List.append_nil, List.toList_toArray, List.cons_append]
  refine (read_call hv hl hx).mono ?_
  rintro _ g ⟨rfl, rfl⟩
  simp (maxSteps := 2000000) only [s58, ↓Za, ↓Zj, ↓Zr, ↓Ze, ↓Zl, ↓Zs, ↓Zf, ↓Zm, ↓Zg, ↓Zb, ↓Zc, ↓vdn, vup, Zk, Zo, Zn, Zi, Zh, List.map_cons, List.map_nil, cond_true, cond_false, aop, Zv, Zq, Zp, ev, sput, Zt, Zy, Ya, unK, Zd, Zw, Nat.reduceBEq, Nat.reduceAdd, Int.reduceBEq, Int.reduceBNe, Int.reduceLT, Zu, Zz, tup, tyf, Wo, Wk, zeroN, zero_77]
  rw [storeRd]
  obtain ⟨hE, hb⟩ := rdBox g o
  generalize hgl : g.length = gl at hE hb ⊢
  generalize (g ++ [Blk.cells (ordN 0) 77 false]).set gl (.cells (rdC o) 77 false) = G at hE hb ⊢
  cases ho : ord o with
  | false =>
    simp (maxSteps := 2000000) only [s58, ↓Za, ↓Zj, ↓Zr, ↓Ze, ↓Zl, ↓Zs, ↓Zf, ↓Zm, ↓Zg, ↓Zb, ↓Zc, ↓vdn, vup, Zk, Zo, Zn, Zi, Zh, List.map_cons, List.map_nil, cond_true, cond_false, aop, Zv, Zq, Zp, ev, sput, Zt, Zy, Ya, unK, Zd, Zw, Nat.reduceBEq, Nat.reduceAdd, Int.reduceBEq, Int.reduceBNe, Int.reduceLT, Zu, Zz, tup, tyf, ho]
    exact ⟨hE, _, _, rfl, by rw [SetsIs, ho]; exact ⟨rfl, rfl⟩⟩
  | true =>
    have hrd : rdC o = Wx o := if_pos (Yx ho)
    rw [hrd] at hb
    simp (maxSteps := 2000000) only [s58, ↓Za, ↓Zj, ↓Zr, ↓Ze, ↓Zl, ↓Zs, ↓Zf, ↓Zm, ↓Zg, ↓Zb, ↓Zc, ↓vdn, vup, Zk, Zo, Zn, Zi, Zh, List.map_cons, List.map_nil, cond_true, cond_false, aop, Zv, Zq, Zp, ev, sput, Zt, Zy, Ya, unK, Zd, Zw, Nat.reduceBEq, Nat.reduceAdd, Int.reduceBEq, Int.reduceBNe, Int.reduceLT, Zu, Zz, tup, tyf, ho, loadO hb Xa (Yx ho).2, List.map_toArray, Yr, List.nil_append, List.append_nil, List.toList_toArray, List.cons_append]
    refine (sets_call ho (idl o) fun s h' hs hE' => ?_).mono ?_
    · exact ideals1_call ho hs ((hE'.2 _ (Yz hb) id).trans hb)
    rintro r H ⟨hr, hEH, _⟩
    exact ⟨hE.trans hEH, _, _, rfl, by rw [SetsIs, ho]; exact ⟨rfl, hr⟩⟩

theorem s88_callW [Tabs Tryd.prog] {args : List Value} {h : Zx} {Q : Value → Zx → Prop} (hsz : args.length ≤ 18) (hk : AWS Tryd.prog 18 s88 (Zu Tryd.prog [.tmp 2] Q) (Zp 0 args) h) : ACall Tryd.prog 88 args h Q :=
  Wa Tryd.func88 rfl (enters_of Tryd.func88 (by kernel_rfl) rfl) rfl rfl (by decide) s88_strip s88_ok hsz hk
theorem or_call [Tabs prog] {h : Zx} {v : Value} {x y : Int} (hv : IntSl h v [x, y]) : Wv prog 88 [v] h (Yb (if x = 0 then y else x)) := by
  have hl2 : ((([x, y] : List Int).length : Nat) : Int) = 2 := rfl
  refine s88_callW (by simp) ?_
  simp only [s88]
  refine Yc fun N10 hN10 => ?_
  simp (maxSteps := 2000000) only [s88, ↓Za, ↓Zj, ↓Zr, ↓Ze, ↓Zl, ↓Zs, ↓Zf, ↓Zm, ↓Zg, ↓Zb, ↓Zc, ↓vdn, vup, Zk, Zo, Zn, Zi, Zh, List.map_cons, List.map_nil, cond_true, cond_false, aop, Zv, Zq, Zp, ev, sput, Zt, Zy, Ya, unK, Zd, Zw, Nat.reduceBEq, Nat.reduceAdd, Int.reduceBEq, Int.reduceBNe, Int.reduceLT, Zu, Zz, tup, tyf]
  refine hN10 [(0, v), (2, .int .i64 0)] _ _ ?_ (by simp (maxSteps := 2000000) only [↓Za, ↓Zj, ↓Zr, ↓Ze, ↓Zl, ↓Zs, ↓Zf, ↓Zm, ↓Zg, ↓Zb, ↓Zc, ↓vdn, vup, Zk, Zo, Zn, Zi, Zh, List.map_cons, List.map_nil, cond_true, cond_false, aop, Zv, Zq, Zp, ev, sput, Zt, Zy, Ya, unK, Zd, Zw, Nat.reduceBEq, Nat.reduceAdd, Int.reduceBEq, Int.reduceBNe, Int.reduceLT, Zu, Zz, tup, tyf])
  clear hN10
  try clear N10
  refine Yc fun N11 hN11 => ?_
  simp (maxSteps := 2000000) only [s88, ↓Za, ↓Zj, ↓Zr, ↓Ze, ↓Zl, ↓Zs, ↓Zf, ↓Zm, ↓Zg, ↓Zb, ↓Zc, ↓vdn, vup, Zk, Zo, Zn, Zi, Zh, List.map_cons, List.map_nil, cond_true, cond_false, aop, Zv, Zq, Zp, ev, sput, Zt, Zy, Ya, unK, Zd, Zw, Nat.reduceBEq, Nat.reduceAdd, Int.reduceBEq, Int.reduceBNe, Int.reduceLT, Zu, Zz, tup, tyf]
  refine hN11 [(0, v), (2, .int .i64 0), (3, .int .i64 0)] _ _ ?_ (by simp (maxSteps := 2000000) only [↓Za, ↓Zj, ↓Zr, ↓Ze, ↓Zl, ↓Zs, ↓Zf, ↓Zm, ↓Zg, ↓Zb, ↓Zc, ↓vdn, vup, Zk, Zo, Zn, Zi, Zh, List.map_cons, List.map_nil, cond_true, cond_false, aop, Zv, Zq, Zp, ev, sput, Zt, Zy, Ya, unK, Zd, Zw, Nat.reduceBEq, Nat.reduceAdd, Int.reduceBEq, Int.reduceBNe, Int.reduceLT, Zu, Zz, tup, tyf])
  clear hN11
  try clear N11
  refine Yu fun Z hZ => ?_
  refine Yc fun N12 hN12 => ?_
  simp (maxSteps := 2000000) only [s88, ↓Za, ↓Zj, ↓Zr, ↓Ze, ↓Zl, ↓Zs, ↓Zf, ↓Zm, ↓Zg, ↓Zb, ↓Zc, ↓vdn, vup, Zk, Zo, Zn, Zi, Zh, List.map_cons, List.map_nil, cond_true, cond_false, aop, Zv, Zq, Zp, ev, sput, Zt, Zy, Ya, unK, Zd, Zw, Nat.reduceBEq, Nat.reduceAdd, Int.reduceBEq, Int.reduceBNe, Int.reduceLT, Zu, Zz, tup, tyf, hv.len, hl2]
  refine hN12 [(0, v), (2, .int .i64 0), (3, .int .i64 0), (6, v), (7, .int .i64 2), (8, .int .i64 0)] _ _ ?_ (by simp (maxSteps := 2000000) only [↓Za, ↓Zj, ↓Zr, ↓Ze, ↓Zl, ↓Zs, ↓Zf, ↓Zm, ↓Zg, ↓Zb, ↓Zc, ↓vdn, vup, Zk, Zo, Zn, Zi, Zh, List.map_cons, List.map_nil, cond_true, cond_false, aop, Zv, Zq, Zp, ev, sput, Zt, Zy, Ya, unK, Zd, Zw, Nat.reduceBEq, Nat.reduceAdd, Int.reduceBEq, Int.reduceBNe, Int.reduceLT, Zu, Zz, tup, tyf])
  clear hN12
  try clear N12
  refine Yp ?_
  refine Yo fun Q hQ => ?_
  refine Wm (γ := Nat) (fun k => k ≤ 2 ∧ ∀ i, i < k → [x, y].getD i 0 = 0) (fun k => ([(0, v), (2, .int .i64 0), (3, .int .i64 0), (6, v), (7, .int .i64 2), (8, Yb (k : Nat))], h)) (fun k => 2 - k) 0 ⟨Nat.zero_le _, fun i hi => absurd hi (Nat.not_lt_zero i)⟩ (by simp (maxSteps := 2000000) only [↓Za, ↓Zj, ↓Zr, ↓Ze, ↓Zl, ↓Zs, ↓Zf, ↓Zm, ↓Zg, ↓Zb, ↓Zc, ↓vdn, vup, Zk, Zo, Zn, Zi, Zh, List.map_cons, List.map_nil, cond_true, cond_false, aop, Zv, Zq, Zp, ev, sput, Zt, Zy, Ya, unK, Zd, Zw, Nat.reduceBEq, Nat.reduceAdd, Int.reduceBEq, Int.reduceBNe, Int.reduceLT, Zu, Zz, tup, tyf, Int.natCast_zero]) rfl ?_
  rintro k ⟨hk, hz⟩
  refine Yo fun Q2 hQ2 => ?_
  simp only [l88_0]
  by_cases hin : (k : Int) < 2
  · have hk2 : k < [x, y].length := by simp; omega
    obtain ⟨z, hzz⟩ : ∃ z, [x, y].getD k 0 = z := ⟨_, rfl⟩
    refine Yc fun N13 hN13 => ?_
    simp (maxSteps := 2000000) only [s88, ↓Za, ↓Zj, ↓Zr, ↓Ze, ↓Zl, ↓Zs, ↓Zf, ↓Zm, ↓Zg, ↓Zb, ↓Zc, ↓vdn, vup, Zk, Zo, Zn, Zi, Zh, List.map_cons, List.map_nil, cond_true, cond_false, aop, Zv, Zq, Zp, ev, sput, Zt, Zy, Ya, unK, Zd, Zw, Nat.reduceBEq, Nat.reduceAdd, Int.reduceBEq, Int.reduceBNe, Int.reduceLT, Zu, Zz, tup, tyf, hin]
    refine hN13 [(0, v), (2, .int .i64 0), (3, .int .i64 0), (6, v), (7, .int .i64 2), (8, Yb (k : Nat)), (9, .bool true)] _ _ ?_ (by simp (maxSteps := 2000000) only [↓Za, ↓Zj, ↓Zr, ↓Ze, ↓Zl, ↓Zs, ↓Zf, ↓Zm, ↓Zg, ↓Zb, ↓Zc, ↓vdn, vup, Zk, Zo, Zn, Zi, Zh, List.map_cons, List.map_nil, cond_true, cond_false, aop, Zv, Zq, Zp, ev, sput, Zt, Zy, Ya, unK, Zd, Zw, Nat.reduceBEq, Nat.reduceAdd, Int.reduceBEq, Int.reduceBNe, Int.reduceLT, Zu, Zz, tup, tyf])
    clear hN13
    try clear N13
    refine Yc fun N14 hN14 => ?_
    simp (maxSteps := 2000000) only [s88, ↓Za, ↓Zj, ↓Zr, ↓Ze, ↓Zl, ↓Zs, ↓Zf, ↓Zm, ↓Zg, ↓Zb, ↓Zc, ↓vdn, vup, Zk, Zo, Zn, Zi, Zh, List.map_cons, List.map_nil, cond_true, cond_false, aop, Zv, Zq, Zp, ev, sput, Zt, Zy, Ya, unK, Zd, Zw, Nat.reduceBEq, Nat.reduceAdd, Int.reduceBEq, Int.reduceBNe, Int.reduceLT, Zu, Zz, tup, tyf]
    refine hN14 [(0, v), (2, .int .i64 0), (3, .int .i64 0), (6, v), (7, .int .i64 2), (8, Yb (k : Nat))] _ _ ?_ (by simp (maxSteps := 2000000) only [↓Za, ↓Zj, ↓Zr, ↓Ze, ↓Zl, ↓Zs, ↓Zf, ↓Zm, ↓Zg, ↓Zb, ↓Zc, ↓vdn, vup, Zk, Zo, Zn, Zi, Zh, List.map_cons, List.map_nil, cond_true, cond_false, aop, Zv, Zq, Zp, ev, sput, Zt, Zy, Ya, unK, Zd, Zw, Nat.reduceBEq, Nat.reduceAdd, Int.reduceBEq, Int.reduceBNe, Int.reduceLT, Zu, Zz, tup, tyf])
    clear hN14
    try clear N14
    refine Yu fun B hB => ?_
    refine Yp ?_
    refine Yc fun N15 hN15 => ?_
    simp (maxSteps := 2000000) only [s88, ↓Za, ↓Zj, ↓Zr, ↓Ze, ↓Zl, ↓Zs, ↓Zf, ↓Zm, ↓Zg, ↓Zb, ↓Zc, ↓vdn, vup, Zk, Zo, Zn, Zi, Zh, List.map_cons, List.map_nil, cond_true, cond_false, aop, Zv, Zq, Zp, ev, sput, Zt, Zy, Ya, unK, Zd, Zw, Nat.reduceBEq, Nat.reduceAdd, Int.reduceBEq, Int.reduceBNe, Int.reduceLT, Zu, Zz, tup, tyf, hv.idx Xy Xr hk2, hv.load Yq hk2, hzz]
    refine hN15 [(0, v), (2, .int .i64 0), (3, .int .i64 0), (5, .int .i64 z), (6, v), (7, .int .i64 2), (8, Yb (k : Nat))] _ _ ?_ (by simp (maxSteps := 2000000) only [↓Za, ↓Zj, ↓Zr, ↓Ze, ↓Zl, ↓Zs, ↓Zf, ↓Zm, ↓Zg, ↓Zb, ↓Zc, ↓vdn, vup, Zk, Zo, Zn, Zi, Zh, List.map_cons, List.map_nil, cond_true, cond_false, aop, Zv, Zq, Zp, ev, sput, Zt, Zy, Ya, unK, Zd, Zw, Nat.reduceBEq, Nat.reduceAdd, Int.reduceBEq, Int.reduceBNe, Int.reduceLT, Zu, Zz, tup, tyf])
    clear hN15
    try clear N15
    refine Yc fun N16 hN16 => ?_
    simp (maxSteps := 2000000) only [s88, ↓Za, ↓Zj, ↓Zr, ↓Ze, ↓Zl, ↓Zs, ↓Zf, ↓Zm, ↓Zg, ↓Zb, ↓Zc, ↓vdn, vup, Zk, Zo, Zn, Zi, Zh, List.map_cons, List.map_nil, cond_true, cond_false, aop, Zv, Zq, Zp, ev, sput, Zt, Zy, Ya, unK, Zd, Zw, Nat.reduceBEq, Nat.reduceAdd, Int.reduceBEq, Int.reduceBNe, Int.reduceLT, Zu, Zz, tup, tyf]
    refine hN16 [(0, v), (2, .int .i64 0), (3, .int .i64 0), (5, .int .i64 z), (6, v), (7, .int .i64 2), (8, Yb (k : Nat)), (14, .bool (z != 0))] _ _ ?_ (by simp (maxSteps := 2000000) only [↓Za, ↓Zj, ↓Zr, ↓Ze, ↓Zl, ↓Zs, ↓Zf, ↓Zm, ↓Zg, ↓Zb, ↓Zc, ↓vdn, vup, Zk, Zo, Zn, Zi, Zh, List.map_cons, List.map_nil, cond_true, cond_false, aop, Zv, Zq, Zp, ev, sput, Zt, Zy, Ya, unK, Zd, Zw, Nat.reduceBEq, Nat.reduceAdd, Int.reduceBEq, Int.reduceBNe, Int.reduceLT, Zu, Zz, tup, tyf])
    clear hN16
    try clear N16
    by_cases h0 : z = 0
    · have hz0 : (z != 0) = false := by rw [h0]; rfl
      rw [hz0]
      refine Xf rfl ?_
      refine Yj ?_
      simp (maxSteps := 2000000) only [s88, ↓Za, ↓Zj, ↓Zr, ↓Ze, ↓Zl, ↓Zs, ↓Zf, ↓Zm, ↓Zg, ↓Zb, ↓Zc, ↓vdn, vup, Zk, Zo, Zn, Zi, Zh, List.map_cons, List.map_nil, cond_true, cond_false, aop, Zv, Zq, Zp, ev, sput, Zt, Zy, Ya, unK, Zd, Zw, Nat.reduceBEq, Nat.reduceAdd, Int.reduceBEq, Int.reduceBNe, Int.reduceLT, Zu, Zz, tup, tyf]
      refine hB [(0, v), (2, .int .i64 0), (3, .int .i64 0), (6, v), (7, .int .i64 2), (8, Yb (k : Nat))] _ _ ?_ (by simp (maxSteps := 2000000) only [↓Za, ↓Zj, ↓Zr, ↓Ze, ↓Zl, ↓Zs, ↓Zf, ↓Zm, ↓Zg, ↓Zb, ↓Zc, ↓vdn, vup, Zk, Zo, Zn, Zi, Zh, List.map_cons, List.map_nil, cond_true, cond_false, aop, Zv, Zq, Zp, ev, sput, Zt, Zy, Ya, unK, Zd, Zw, Nat.reduceBEq, Nat.reduceAdd, Int.reduceBEq, Int.reduceBNe, Int.reduceLT, Zu, Zz, tup, tyf])
      clear hB
      try clear B
      refine Yj ?_
      simp (maxSteps := 2000000) only [s88, ↓Za, ↓Zj, ↓Zr, ↓Ze, ↓Zl, ↓Zs, ↓Zf, ↓Zm, ↓Zg, ↓Zb, ↓Zc, ↓vdn, vup, Zk, Zo, Zn, Zi, Zh, List.map_cons, List.map_nil, cond_true, cond_false, aop, Zv, Zq, Zp, ev, sput, Zt, Zy, Ya, unK, Zd, Zw, Nat.reduceBEq, Nat.reduceAdd, Int.reduceBEq, Int.reduceBNe, Int.reduceLT, Zu, Zz, tup, tyf, add1 (show k < 9223372036854775807 by omega)]
      refine hQ2 _ _ _ ⟨k + 1, ⟨by omega, fun i hi => ?_⟩, by omega, by simp (maxSteps := 2000000) only [↓Za, ↓Zj, ↓Zr, ↓Ze, ↓Zl, ↓Zs, ↓Zf, ↓Zm, ↓Zg, ↓Zb, ↓Zc, ↓vdn, vup, Zk, Zo, Zn, Zi, Zh, List.map_cons, List.map_nil, cond_true, cond_false, aop, Zv, Zq, Zp, ev, sput, Zt, Zy, Ya, unK, Zd, Zw, Nat.reduceBEq, Nat.reduceAdd, Int.reduceBEq, Int.reduceBNe, Int.reduceLT, Zu, Zz, tup, tyf], rfl⟩
      by_cases he : i = k
      · rw [he, hzz, h0]
      · exact hz i (by omega)
    · have hz0 : (z != 0) = true := by simpa using h0
      rw [hz0]
      refine Ws rfl ?_
      refine Yj ?_
      simp (maxSteps := 2000000) only [s88, ↓Za, ↓Zj, ↓Zr, ↓Ze, ↓Zl, ↓Zs, ↓Zf, ↓Zm, ↓Zg, ↓Zb, ↓Zc, ↓vdn, vup, Zk, Zo, Zn, Zi, Zh, List.map_cons, List.map_nil, cond_true, cond_false, aop, Zv, Zq, Zp, ev, sput, Zt, Zy, Ya, unK, Zd, Zw, Nat.reduceBEq, Nat.reduceAdd, Int.reduceBEq, Int.reduceBNe, Int.reduceLT, Zu, Zz, tup, tyf]
      refine hQ2 _ _ _ (hQ _ _ _ ?_)
      have hres : z = if x = 0 then y else x := by
        have hk01 : k = 0 ∨ k = 1 := by omega
        rcases hk01 with rfl | rfl
        · have e : x = z := hzz
          rw [e, if_neg h0]
        · have e : y = z := hzz
          have e0 : x = 0 := hz 0 (by omega)
          rw [if_pos e0, e]
      simp (maxSteps := 2000000) only [s88, ↓Za, ↓Zj, ↓Zr, ↓Ze, ↓Zl, ↓Zs, ↓Zf, ↓Zm, ↓Zg, ↓Zb, ↓Zc, ↓vdn, vup, Zk, Zo, Zn, Zi, Zh, List.map_cons, List.map_nil, cond_true, cond_false, aop, Zv, Zq, Zp, ev, sput, Zt, Zy, Ya, unK, Zd, Zw, Nat.reduceBEq, Nat.reduceAdd, Int.reduceBEq, Int.reduceBNe, Int.reduceLT, Zu, Zz, tup, tyf, hres]
  · obtain rfl : k = 2 := by omega
    refine Yc fun N17 hN17 => ?_
    simp (maxSteps := 2000000) only [s88, ↓Za, ↓Zj, ↓Zr, ↓Ze, ↓Zl, ↓Zs, ↓Zf, ↓Zm, ↓Zg, ↓Zb, ↓Zc, ↓vdn, vup, Zk, Zo, Zn, Zi, Zh, List.map_cons, List.map_nil, cond_true, cond_false, aop, Zv, Zq, Zp, ev, sput, Zt, Zy, Ya, unK, Zd, Zw, Nat.reduceBEq, Nat.reduceAdd, Int.reduceBEq, Int.reduceBNe, Int.reduceLT, Zu, Zz, tup, tyf, hin]
    refine hN17 [(0, v), (2, .int .i64 0), (3, .int .i64 0), (6, v), (7, .int .i64 2), (8, Yb (2 : Nat)), (9, .bool false)] _ _ ?_ (by simp (maxSteps := 2000000) only [↓Za, ↓Zj, ↓Zr, ↓Ze, ↓Zl, ↓Zs, ↓Zf, ↓Zm, ↓Zg, ↓Zb, ↓Zc, ↓vdn, vup, Zk, Zo, Zn, Zi, Zh, List.map_cons, List.map_nil, cond_true, cond_false, aop, Zv, Zq, Zp, ev, sput, Zt, Zy, Ya, unK, Zd, Zw, Nat.reduceBEq, Nat.reduceAdd, Int.reduceBEq, Int.reduceBNe, Int.reduceLT, Zu, Zz, tup, tyf])
    clear hN17
    try clear N17
    refine Yc fun N18 hN18 => ?_
    simp (maxSteps := 2000000) only [s88, ↓Za, ↓Zj, ↓Zr, ↓Ze, ↓Zl, ↓Zs, ↓Zf, ↓Zm, ↓Zg, ↓Zb, ↓Zc, ↓vdn, vup, Zk, Zo, Zn, Zi, Zh, List.map_cons, List.map_nil, cond_true, cond_false, aop, Zv, Zq, Zp, ev, sput, Zt, Zy, Ya, unK, Zd, Zw, Nat.reduceBEq, Nat.reduceAdd, Int.reduceBEq, Int.reduceBNe, Int.reduceLT, Zu, Zz, tup, tyf]
    refine hQ2 _ _ _ (hQ _ _ _ ?_)
    simp (maxSteps := 2000000) only [s88, ↓Za, ↓Zj, ↓Zr, ↓Ze, ↓Zl, ↓Zs, ↓Zf, ↓Zm, ↓Zg, ↓Zb, ↓Zc, ↓vdn, vup, Zk, Zo, Zn, Zi, Zh, List.map_cons, List.map_nil, cond_true, cond_false, aop, Zv, Zq, Zp, ev, sput, Zt, Zy, Ya, unK, Zd, Zw, Nat.reduceBEq, Nat.reduceAdd, Int.reduceBEq, Int.reduceBNe, Int.reduceLT, Zu, Zz, tup, tyf, if_true]
    refine hZ [(0, v), (2, .int .i64 0), (3, .int .i64 0)] _ _ ?_ (by simp (maxSteps := 2000000) only [↓Za, ↓Zj, ↓Zr, ↓Ze, ↓Zl, ↓Zs, ↓Zf, ↓Zm, ↓Zg, ↓Zb, ↓Zc, ↓vdn, vup, Zk, Zo, Zn, Zi, Zh, List.map_cons, List.map_nil, cond_true, cond_false, aop, Zv, Zq, Zp, ev, sput, Zt, Zy, Ya, unK, Zd, Zw, Nat.reduceBEq, Nat.reduceAdd, Int.reduceBEq, Int.reduceBNe, Int.reduceLT, Zu, Zz, tup, tyf])
    clear hZ
    try clear Z
    have e0 : x = 0 := hz 0 (by omega)
    have e1 : y = 0 := hz 1 (by omega)
    refine Yj ?_
    simp (maxSteps := 2000000) only [s88, ↓Za, ↓Zj, ↓Zr, ↓Ze, ↓Zl, ↓Zs, ↓Zf, ↓Zm, ↓Zg, ↓Zb, ↓Zc, ↓vdn, vup, Zk, Zo, Zn, Zi, Zh, List.map_cons, List.map_nil, cond_true, cond_false, aop, Zv, Zq, Zp, ev, sput, Zt, Zy, Ya, unK, Zd, Zw, Nat.reduceBEq, Nat.reduceAdd, Int.reduceBEq, Int.reduceBNe, Int.reduceLT, Zu, Zz, tup, tyf, e0, e1, if_true]

/-- The order of sets: more elements first, then the lesser. -/
def cmpS (a b : Nat) : Int := if ((Am.bits b).length : Int) - (Am.bits a).length = 0 then (a : Int) - b else ((Am.bits b).length : Int) - (Am.bits a).length
theorem bits_le64 (s : Nat) : (Am.bits s).length ≤ 64 := by
  have := List.length_filter_le (fun i => s.testBit i) (List.range 64)
  rwa [List.length_range] at this
theorem s87_callW [Tabs Tryd.prog] {args : List Value} {h : Zx} {Q : Value → Zx → Prop} (hsz : args.length ≤ 15) (hk : AWS Tryd.prog 15 s87 (Zu Tryd.prog [.tmp 4] Q) (Zp 0 args) h) : ACall Tryd.prog 87 args h Q :=
  Wa Tryd.func87 rfl (enters_of Tryd.func87 (by kernel_rfl) rfl) rfl rfl (by decide) s87_strip s87_ok hsz hk
theorem cmpS_call [Tabs prog] {h : Zx} {a b : Nat} (ha : a < 256) (hb : b < 256) : Wv prog 87 [Yb (a : Nat), Yb (b : Nat)] h (Yb (cmpS a b)) := by
  refine ACall.forget (Low.int _ _) ?_
  have l1 := bits_le64 a
  have l2 := bits_le64 b
  refine s87_callW (by simp) ?_
  simp only [s87]
  refine Yc fun N19 hN19 => ?_
  simp (maxSteps := 2000000) only [s87, ↓Za, ↓Zj, ↓Zr, ↓Ze, ↓Zl, ↓Zs, ↓Zf, ↓Zm, ↓Zg, ↓Zb, ↓Zc, ↓vdn, vup, Zk, Zo, Zn, Zi, Zh, List.map_cons, List.map_nil, cond_true, cond_false, aop, Zv, Zq, Zp, ev, sput, Zt, Zy, Ya, unK, Zd, Zw, Nat.reduceBEq, Nat.reduceAdd, Int.reduceBEq, Int.reduceBNe, Int.reduceLT, Zu, Zz, tup, tyf]
  refine hN19 [(0, Yb (a : Nat)), (1, Yb (b : Nat)), (4, .int .i64 0)] _ _ ?_ (by simp (maxSteps := 2000000) only [↓Za, ↓Zj, ↓Zr, ↓Ze, ↓Zl, ↓Zs, ↓Zf, ↓Zm, ↓Zg, ↓Zb, ↓Zc, ↓vdn, vup, Zk, Zo, Zn, Zi, Zh, List.map_cons, List.map_nil, cond_true, cond_false, aop, Zv, Zq, Zp, ev, sput, Zt, Zy, Ya, unK, Zd, Zw, Nat.reduceBEq, Nat.reduceAdd, Int.reduceBEq, Int.reduceBNe, Int.reduceLT, Zu, Zz, tup, tyf])
  clear hN19
  try clear N19
  refine Yj ?_
  simp (maxSteps := 2000000) only [s87, ↓Za, ↓Zj, ↓Zr, ↓Ze, ↓Zl, ↓Zs, ↓Zf, ↓Zm, ↓Zg, ↓Zb, ↓Zc, ↓vdn, vup, Zk, Zo, Zn, Zi, Zh, List.map_cons, List.map_nil, cond_true, cond_false, aop, Zv, Zq, Zp, ev, sput, Zt, Zy, Ya, unK, Zd, Zw, Nat.reduceBEq, Nat.reduceAdd, Int.reduceBEq, Int.reduceBNe, Int.reduceLT, Zu, Zz, tup, tyf, Yr, List.nil_append, List.append_nil, List.toList_toArray, List.cons_append]
  refine (cntb_call hb).mono ?_
  rintro _ h ⟨rfl, rfl⟩
  refine (cntb_call ha).mono ?_
  rintro _ h ⟨rfl, rfl⟩
  have s1 : subV .i64 (((Am.bits b).length : Nat) : Int) (((Am.bits a).length : Nat) : Int) = ((Am.bits b).length : Int) - (Am.bits a).length := subV_id (by omega) (by omega)
  have s2 : subV .i64 ((a : Nat) : Int) ((b : Nat) : Int) = (a : Int) - b := subV_id (by omega) (by omega)
  try simp (maxSteps := 2000000) only [s87, ↓Za, ↓Zj, ↓Zr, ↓Ze, ↓Zl, ↓Zs, ↓Zf, ↓Zm, ↓Zg, ↓Zb, ↓Zc, ↓vdn, vup, Zk, Zo, Zn, Zi, Zh, List.map_cons, List.map_nil, cond_true, cond_false, aop, Zv, Zq, Zp, ev, sput, Zt, Zy, Ya, unK, Zd, Zw, Nat.reduceBEq, Nat.reduceAdd, Int.reduceBEq, Int.reduceBNe, Int.reduceLT, Zu, Zz, tup, tyf, s1, s2, List.map_toArray, lit2, Yr, List.nil_append, List.append_nil, List.toList_toArray, List.cons_append]
  refine (or_call litSl).mono ?_
  rintro _ _ ⟨rfl, rfl⟩
  simp (maxSteps := 2000000) only [s87, ↓Za, ↓Zj, ↓Zr, ↓Ze, ↓Zl, ↓Zs, ↓Zf, ↓Zm, ↓Zg, ↓Zb, ↓Zc, ↓vdn, vup, Zk, Zo, Zn, Zi, Zh, List.map_cons, List.map_nil, cond_true, cond_false, aop, Zv, Zq, Zp, ev, sput, Zt, Zy, Ya, unK, Zd, Zw, Nat.reduceBEq, Nat.reduceAdd, Int.reduceBEq, Int.reduceBNe, Int.reduceLT, Zu, Zz, tup, tyf, cmpS]
  exact Ext.app _ _ _

/-- Which of the first k is the least. -/
structure MinI (L : List Nat) (k m : Nat) : Prop where
  at_ : ∃ a, a < k ∧ L.getD a 0 = m ∧ ∀ b, b < a → (Am.bits (L.getD b 0)).length < (Am.bits m).length
  le : ∀ b, b < k → (Am.bits (L.getD b 0)).length ≤ (Am.bits m).length
theorem MinI.step {L : List Nat} {k m : Nat} (h : MinI L k m) (hs : ∀ a b, a < b → b < L.length → L.getD a 0 < L.getD b 0) (hk : k < L.length) : (cmpS (L.getD k 0) m < 0 → MinI L (k + 1) (L.getD k 0)) ∧ (¬ cmpS (L.getD k 0) m < 0 → MinI L (k + 1) m) := by
  obtain ⟨⟨a, ha, ham, hb⟩, hle⟩ := h
  have hlt : m < L.getD k 0 := by rw [← ham]; exact hs a k ha hk
  have hc : cmpS (L.getD k 0) m < 0 ↔ (Am.bits m).length < (Am.bits (L.getD k 0)).length := by
    rw [cmpS]; split <;> omega
  constructor
  · intro h1
    have h2 := hc.1 h1
    refine ⟨⟨k, by omega, rfl, fun b hb' => ?_⟩, fun b hb' => ?_⟩
    · have := hle b hb'; omega
    · by_cases he : b = k
      · rw [he]; exact Nat.le_refl _
      · have := hle b (by omega); omega
  · intro h1
    have h2 : ¬ (Am.bits m).length < (Am.bits (L.getD k 0)).length := fun h => h1 (hc.2 h)
    refine ⟨⟨a, by omega, ham, hb⟩, fun b hb' => ?_⟩
    by_cases he : b = k
    · rw [he]; omega
    · exact hle b (by omega)
theorem setsL_sorted (o : List Int) (p : Nat → Bool) : (setsL o p).Pairwise (· < ·) := (List.pairwise_lt_range).filter _
theorem pw_get {L : List Nat} (h : L.Pairwise (· < ·)) {a b : Nat} (hab : a < b) (hb : b < L.length) : L.getD a 0 < L.getD b 0 := by
  rw [List.getD, List.getD, List.getElem?_eq_getElem hb, List.getElem?_eq_getElem (show a < L.length by omega)]
  exact List.pairwise_iff_getElem.1 h a b _ _ hab
theorem mem_setsL {o : List Int} {p : Nat → Bool} {s : Nat} : s ∈ setsL o p ↔ s < 2 ^ o.length ∧ p s = true := by rw [setsL, List.mem_filter, List.mem_range]
theorem getD_memN {L : List Nat} {a : Nat} (h : a < L.length) : L.getD a 0 ∈ L := by rw [List.getD, List.getElem?_eq_getElem h]; exact List.getElem_mem h
theorem minI_anti {o : List Int} {m : Nat} (hp : 0 < 2 ^ o.length) (h : MinI (setsL o fun s => uni o s true) (setsL o fun s => uni o s true).length m) : m = Wj o := by
  obtain ⟨L, hL⟩ : ∃ L, L = setsL o fun s => uni o s true := ⟨_, rfl⟩
  have hs := setsL_sorted o fun s => uni o s true
  rw [← hL] at h hs
  have hm : ∀ s, s ∈ L ↔ s < 2 ^ o.length ∧ uni o s true = true := fun s => by rw [hL]; exact mem_setsL
  obtain ⟨⟨a, ha, ham, hb⟩, hle⟩ := h
  obtain ⟨m1, m2, m3, m4⟩ := antiTo_spec o (2 ^ o.length) hp
  have hM : Vd o (2 ^ o.length) = Wj o := rfl
  rw [hM] at m1 m2 m3 m4
  have hmL := (hm _).1 (getD_memN ha)
  rw [ham] at hmL
  obtain ⟨c, hc, hcm⟩ := List.mem_iff_getElem.1 ((hm _).2 ⟨m1, m2⟩)
  have hcg : L.getD c 0 = Wj o := by rw [List.getD, List.getElem?_eq_getElem hc, hcm]; rfl
  have e1 := hle c hc
  rw [hcg] at e1
  have e2 := m3 m hmL.1 hmL.2
  rcases Nat.lt_trichotomy m (Wj o) with h1 | h1 | h1
  · have := m4 m h1 hmL.2; omega
  · exact h1
  · exfalso
    rcases Nat.lt_trichotomy a c with h2 | h2 | h2
    · have := pw_get hs h2 hc; rw [ham, hcg] at this; omega
    · rw [h2, hcg] at ham; omega
    · have := hb c h2; rw [hcg] at this; omega

theorem s86_callW [Tabs Tryd.prog] {args : List Value} {h : Zx} {Q : Value → Zx → Prop} (hsz : args.length ≤ 33) (hk : AWS Tryd.prog 33 s86 (Zu Tryd.prog [.tmp 4] Q) (Zp 0 args) h) : ACall Tryd.prog 86 args h Q :=
  Wa Tryd.func86 rfl (enters_of Tryd.func86 (by kernel_rfl) rfl) rfl rfl (by decide) s86_strip s86_ok hsz hk
theorem minS_call [Tabs prog] {h : Zx} {v : Value} {L : List Nat} (hv : IntSl h v (iL L)) (hs : L.Pairwise (· < ·)) (hx : ∀ x ∈ L, x < 256) (h0 : 0 < L.length) (hl : L.length < 9223372036854775807) : ACall prog 86 [v, .func (.func 87) #[] #[]] h fun r h' => h' = h ∧ ∃ m, r = Yb (m : Nat) ∧ MinI L L.length m := by
  have hlen : (iL L).length = L.length := iL_len L
  have n1 : ¬ ((L.length : Nat) : Int) < 1 := by omega
  have hget : ∀ i, i < L.length → L.getD i 0 < 256 := fun i hi => hx _ (getD_memN hi)
  have hi0 : ∀ K : Value → Prop, Yt prog 22 v (.int .i64 0) K = K (elemP v 1 0) := fun K => by
    have := hv.idx Xy Xr (k := .i64) (show 0 < (iL L).length by rw [hlen]; exact h0) K
    simpa using this
  refine s86_callW (by simp) ?_
  simp only [s86]
  refine Yc fun N20 hN20 => ?_
  simp (maxSteps := 2000000) only [s86, ↓Za, ↓Zj, ↓Zr, ↓Ze, ↓Zl, ↓Zs, ↓Zf, ↓Zm, ↓Zg, ↓Zb, ↓Zc, ↓vdn, vup, Zk, Zo, Zn, Zi, Zh, List.map_cons, List.map_nil, cond_true, cond_false, aop, Zv, Zq, Zp, ev, sput, Zt, Zy, Ya, unK, Zd, Zw, Nat.reduceBEq, Nat.reduceAdd, Int.reduceBEq, Int.reduceBNe, Int.reduceLT, Zu, Zz, tup, tyf]
  refine hN20 [(0, v), (1, .func (.func 87) #[] #[]), (4, .int .i64 0)] _ _ ?_ (by simp (maxSteps := 2000000) only [↓Za, ↓Zj, ↓Zr, ↓Ze, ↓Zl, ↓Zs, ↓Zf, ↓Zm, ↓Zg, ↓Zb, ↓Zc, ↓vdn, vup, Zk, Zo, Zn, Zi, Zh, List.map_cons, List.map_nil, cond_true, cond_false, aop, Zv, Zq, Zp, ev, sput, Zt, Zy, Ya, unK, Zd, Zw, Nat.reduceBEq, Nat.reduceAdd, Int.reduceBEq, Int.reduceBNe, Int.reduceLT, Zu, Zz, tup, tyf])
  clear hN20
  try clear N20
  refine Yu fun A hA => ?_
  refine Yc fun N21 hN21 => ?_
  simp (maxSteps := 2000000) only [s86, ↓Za, ↓Zj, ↓Zr, ↓Ze, ↓Zl, ↓Zs, ↓Zf, ↓Zm, ↓Zg, ↓Zb, ↓Zc, ↓vdn, vup, Zk, Zo, Zn, Zi, Zh, List.map_cons, List.map_nil, cond_true, cond_false, aop, Zv, Zq, Zp, ev, sput, Zt, Zy, Ya, unK, Zd, Zw, Nat.reduceBEq, Nat.reduceAdd, Int.reduceBEq, Int.reduceBNe, Int.reduceLT, Zu, Zz, tup, tyf, hv.len, hlen, n1]
  refine hN21 [(0, v), (1, .func (.func 87) #[] #[]), (4, .int .i64 0), (9, .bool false)] _ _ ?_ (by simp (maxSteps := 2000000) only [↓Za, ↓Zj, ↓Zr, ↓Ze, ↓Zl, ↓Zs, ↓Zf, ↓Zm, ↓Zg, ↓Zb, ↓Zc, ↓vdn, vup, Zk, Zo, Zn, Zi, Zh, List.map_cons, List.map_nil, cond_true, cond_false, aop, Zv, Zq, Zp, ev, sput, Zt, Zy, Ya, unK, Zd, Zw, Nat.reduceBEq, Nat.reduceAdd, Int.reduceBEq, Int.reduceBNe, Int.reduceLT, Zu, Zz, tup, tyf])
  clear hN21
  try clear N21
  refine Xf rfl ?_
  refine Yj ?_
  simp (maxSteps := 2000000) only [s86, ↓Za, ↓Zj, ↓Zr, ↓Ze, ↓Zl, ↓Zs, ↓Zf, ↓Zm, ↓Zg, ↓Zb, ↓Zc, ↓vdn, vup, Zk, Zo, Zn, Zi, Zh, List.map_cons, List.map_nil, cond_true, cond_false, aop, Zv, Zq, Zp, ev, sput, Zt, Zy, Ya, unK, Zd, Zw, Nat.reduceBEq, Nat.reduceAdd, Int.reduceBEq, Int.reduceBNe, Int.reduceLT, Zu, Zz, tup, tyf]
  refine hA [(0, v), (1, .func (.func 87) #[] #[]), (4, .int .i64 0)] _ _ ?_ (by simp (maxSteps := 2000000) only [↓Za, ↓Zj, ↓Zr, ↓Ze, ↓Zl, ↓Zs, ↓Zf, ↓Zm, ↓Zg, ↓Zb, ↓Zc, ↓vdn, vup, Zk, Zo, Zn, Zi, Zh, List.map_cons, List.map_nil, cond_true, cond_false, aop, Zv, Zq, Zp, ev, sput, Zt, Zy, Ya, unK, Zd, Zw, Nat.reduceBEq, Nat.reduceAdd, Int.reduceBEq, Int.reduceBNe, Int.reduceLT, Zu, Zz, tup, tyf])
  clear hA
  try clear A
  refine Yc fun N22 hN22 => ?_
  simp (maxSteps := 2000000) only [s86, ↓Za, ↓Zj, ↓Zr, ↓Ze, ↓Zl, ↓Zs, ↓Zf, ↓Zm, ↓Zg, ↓Zb, ↓Zc, ↓vdn, vup, Zk, Zo, Zn, Zi, Zh, List.map_cons, List.map_nil, cond_true, cond_false, aop, Zv, Zq, Zp, ev, sput, Zt, Zy, Ya, unK, Zd, Zw, Nat.reduceBEq, Nat.reduceAdd, Int.reduceBEq, Int.reduceBNe, Int.reduceLT, Zu, Zz, tup, tyf, hi0, hv.load Yq (show 0 < (iL L).length by rw [hlen]; exact h0), iL_get]
  refine hN22 [(0, v), (1, .func (.func 87) #[] #[]), (4, .int .i64 0), (5, Yb (L.getD 0 0 : Nat))] _ _ ?_ (by simp (maxSteps := 2000000) only [↓Za, ↓Zj, ↓Zr, ↓Ze, ↓Zl, ↓Zs, ↓Zf, ↓Zm, ↓Zg, ↓Zb, ↓Zc, ↓vdn, vup, Zk, Zo, Zn, Zi, Zh, List.map_cons, List.map_nil, cond_true, cond_false, aop, Zv, Zq, Zp, ev, sput, Zt, Zy, Ya, unK, Zd, Zw, Nat.reduceBEq, Nat.reduceAdd, Int.reduceBEq, Int.reduceBNe, Int.reduceLT, Zu, Zz, tup, tyf])
  clear hN22
  try clear N22
  refine Yu fun Z hZ => ?_
  refine Yc fun N23 hN23 => ?_
  simp (maxSteps := 2000000) only [s86, ↓Za, ↓Zj, ↓Zr, ↓Ze, ↓Zl, ↓Zs, ↓Zf, ↓Zm, ↓Zg, ↓Zb, ↓Zc, ↓vdn, vup, Zk, Zo, Zn, Zi, Zh, List.map_cons, List.map_nil, cond_true, cond_false, aop, Zv, Zq, Zp, ev, sput, Zt, Zy, Ya, unK, Zd, Zw, Nat.reduceBEq, Nat.reduceAdd, Int.reduceBEq, Int.reduceBNe, Int.reduceLT, Zu, Zz, tup, tyf]
  refine hN23 [(0, v), (1, .func (.func 87) #[] #[]), (4, .int .i64 0), (5, Yb (L.getD 0 0 : Nat)), (6, .int .i64 1)] _ _ ?_ (by simp (maxSteps := 2000000) only [↓Za, ↓Zj, ↓Zr, ↓Ze, ↓Zl, ↓Zs, ↓Zf, ↓Zm, ↓Zg, ↓Zb, ↓Zc, ↓vdn, vup, Zk, Zo, Zn, Zi, Zh, List.map_cons, List.map_nil, cond_true, cond_false, aop, Zv, Zq, Zp, ev, sput, Zt, Zy, Ya, unK, Zd, Zw, Nat.reduceBEq, Nat.reduceAdd, Int.reduceBEq, Int.reduceBNe, Int.reduceLT, Zu, Zz, tup, tyf])
  clear hN23
  try clear N23
  refine Yp ?_
  refine Yo fun Q hQ => ?_
  refine Wm (γ := Nat × Nat) (fun g => 1 ≤ g.1 ∧ g.1 ≤ L.length ∧ MinI L g.1 g.2) (fun g => ([(0, v), (1, .func (.func 87) #[] #[]), (4, .int .i64 0), (5, Yb (g.2 : Nat)), (6, Yb (g.1 : Nat))], h)) (fun g => L.length - g.1) (1, L.getD 0 0) ⟨Nat.le_refl _, h0, ⟨⟨0, by omega, rfl, fun b hb => absurd hb (Nat.not_lt_zero b)⟩, fun b hb => by rw [show b = 0 by omega]; exact Nat.le_refl _⟩⟩ (by simp (maxSteps := 2000000) only [↓Za, ↓Zj, ↓Zr, ↓Ze, ↓Zl, ↓Zs, ↓Zf, ↓Zm, ↓Zg, ↓Zb, ↓Zc, ↓vdn, vup, Zk, Zo, Zn, Zi, Zh, List.map_cons, List.map_nil, cond_true, cond_false, aop, Zv, Zq, Zp, ev, sput, Zt, Zy, Ya, unK, Zd, Zw, Nat.reduceBEq, Nat.reduceAdd, Int.reduceBEq, Int.reduceBNe, Int.reduceLT, Zu, Zz, tup, tyf, Int.natCast_one]) rfl ?_
  rintro ⟨k, m⟩ ⟨hk1, hk, hm⟩
  simp only at hk1 hk hm
  refine Yo fun Q2 hQ2 => ?_
  simp only [l86_0]
  by_cases hin : (k : Int) < L.length
  · have hk' : k < L.length := by omega
    have hk2 : k < (iL L).length := by rw [hlen]; exact hk'
    obtain ⟨hst1, hst2⟩ := hm.step (fun a b => pw_get hs) hk'
    have hm256 : m < 256 := by
      obtain ⟨a, ha, ham, _⟩ := hm.at_
      rw [← ham]; exact hget a (by omega)
    refine Yu fun C hC => ?_
    refine Yc fun N24 hN24 => ?_
    simp (maxSteps := 2000000) only [s86, ↓Za, ↓Zj, ↓Zr, ↓Ze, ↓Zl, ↓Zs, ↓Zf, ↓Zm, ↓Zg, ↓Zb, ↓Zc, ↓vdn, vup, Zk, Zo, Zn, Zi, Zh, List.map_cons, List.map_nil, cond_true, cond_false, aop, Zv, Zq, Zp, ev, sput, Zt, Zy, Ya, unK, Zd, Zw, Nat.reduceBEq, Nat.reduceAdd, Int.reduceBEq, Int.reduceBNe, Int.reduceLT, Zu, Zz, tup, tyf, hv.len, hlen, hin]
    refine hN24 [(0, v), (1, .func (.func 87) #[] #[]), (4, .int .i64 0), (5, Yb (m : Nat)), (6, Yb (k : Nat)), (17, .bool true)] _ _ ?_ (by simp (maxSteps := 2000000) only [↓Za, ↓Zj, ↓Zr, ↓Ze, ↓Zl, ↓Zs, ↓Zf, ↓Zm, ↓Zg, ↓Zb, ↓Zc, ↓vdn, vup, Zk, Zo, Zn, Zi, Zh, List.map_cons, List.map_nil, cond_true, cond_false, aop, Zv, Zq, Zp, ev, sput, Zt, Zy, Ya, unK, Zd, Zw, Nat.reduceBEq, Nat.reduceAdd, Int.reduceBEq, Int.reduceBNe, Int.reduceLT, Zu, Zz, tup, tyf])
    clear hN24
    try clear N24
    refine Ws rfl ?_
    refine Yj ?_
    simp (maxSteps := 2000000) only [s86, ↓Za, ↓Zj, ↓Zr, ↓Ze, ↓Zl, ↓Zs, ↓Zf, ↓Zm, ↓Zg, ↓Zb, ↓Zc, ↓vdn, vup, Zk, Zo, Zn, Zi, Zh, List.map_cons, List.map_nil, cond_true, cond_false, aop, Zv, Zq, Zp, ev, sput, Zt, Zy, Ya, unK, Zd, Zw, Nat.reduceBEq, Nat.reduceAdd, Int.reduceBEq, Int.reduceBNe, Int.reduceLT, Zu, Zz, tup, tyf]
    refine hC [(0, v), (1, .func (.func 87) #[] #[]), (4, .int .i64 0), (5, Yb (m : Nat)), (6, Yb (k : Nat))] _ _ ?_ (by simp (maxSteps := 2000000) only [↓Za, ↓Zj, ↓Zr, ↓Ze, ↓Zl, ↓Zs, ↓Zf, ↓Zm, ↓Zg, ↓Zb, ↓Zc, ↓vdn, vup, Zk, Zo, Zn, Zi, Zh, List.map_cons, List.map_nil, cond_true, cond_false, aop, Zv, Zq, Zp, ev, sput, Zt, Zy, Ya, unK, Zd, Zw, Nat.reduceBEq, Nat.reduceAdd, Int.reduceBEq, Int.reduceBNe, Int.reduceLT, Zu, Zz, tup, tyf])
    clear hC
    try clear C
    refine Yu fun B hB => ?_
    refine Yp ?_
    refine Yc fun N25 hN25 => ?_
    simp (maxSteps := 2000000) only [s86, ↓Za, ↓Zj, ↓Zr, ↓Ze, ↓Zl, ↓Zs, ↓Zf, ↓Zm, ↓Zg, ↓Zb, ↓Zc, ↓vdn, vup, Zk, Zo, Zn, Zi, Zh, List.map_cons, List.map_nil, cond_true, cond_false, aop, Zv, Zq, Zp, ev, sput, Zt, Zy, Ya, unK, Zd, Zw, Nat.reduceBEq, Nat.reduceAdd, Int.reduceBEq, Int.reduceBNe, Int.reduceLT, Zu, Zz, tup, tyf, Yr, List.nil_append, List.append_nil, List.toList_toArray, List.cons_append, hv.idx Xy Xr hk2, hv.load Yq hk2, iL_get]
    refine (cmpS_call (hget k hk') hm256).mono ?_
    rintro _ h ⟨rfl, rfl⟩
    by_cases hc : cmpS (L.getD k 0) m < 0
    · simp (maxSteps := 2000000) only [s86, ↓Za, ↓Zj, ↓Zr, ↓Ze, ↓Zl, ↓Zs, ↓Zf, ↓Zm, ↓Zg, ↓Zb, ↓Zc, ↓vdn, vup, Zk, Zo, Zn, Zi, Zh, List.map_cons, List.map_nil, cond_true, cond_false, aop, Zv, Zq, Zp, ev, sput, Zt, Zy, Ya, unK, Zd, Zw, Nat.reduceBEq, Nat.reduceAdd, Int.reduceBEq, Int.reduceBNe, Int.reduceLT, Zu, Zz, tup, tyf, decide_eq_true hc]
      refine hN25 [(0, v), (1, .func (.func 87) #[] #[]), (4, .int .i64 0), (5, Yb (m : Nat)), (6, Yb (k : Nat)), (27, .bool true)] _ _ ?_ (by simp (maxSteps := 2000000) only [↓Za, ↓Zj, ↓Zr, ↓Ze, ↓Zl, ↓Zs, ↓Zf, ↓Zm, ↓Zg, ↓Zb, ↓Zc, ↓vdn, vup, Zk, Zo, Zn, Zi, Zh, List.map_cons, List.map_nil, cond_true, cond_false, aop, Zv, Zq, Zp, ev, sput, Zt, Zy, Ya, unK, Zd, Zw, Nat.reduceBEq, Nat.reduceAdd, Int.reduceBEq, Int.reduceBNe, Int.reduceLT, Zu, Zz, tup, tyf])
      clear hN25
      try clear N25
      refine Ws rfl ?_
      refine Yj ?_
      simp (maxSteps := 2000000) only [s86, ↓Za, ↓Zj, ↓Zr, ↓Ze, ↓Zl, ↓Zs, ↓Zf, ↓Zm, ↓Zg, ↓Zb, ↓Zc, ↓vdn, vup, Zk, Zo, Zn, Zi, Zh, List.map_cons, List.map_nil, cond_true, cond_false, aop, Zv, Zq, Zp, ev, sput, Zt, Zy, Ya, unK, Zd, Zw, Nat.reduceBEq, Nat.reduceAdd, Int.reduceBEq, Int.reduceBNe, Int.reduceLT, Zu, Zz, tup, tyf, hv.idx Xy Xr hk2, hv.load Yq hk2, iL_get]
      refine hB [(0, v), (1, .func (.func 87) #[] #[]), (4, .int .i64 0), (5, Yb (L.getD k 0 : Nat)), (6, Yb (k : Nat))] _ _ ?_ (by simp (maxSteps := 2000000) only [↓Za, ↓Zj, ↓Zr, ↓Ze, ↓Zl, ↓Zs, ↓Zf, ↓Zm, ↓Zg, ↓Zb, ↓Zc, ↓vdn, vup, Zk, Zo, Zn, Zi, Zh, List.map_cons, List.map_nil, cond_true, cond_false, aop, Zv, Zq, Zp, ev, sput, Zt, Zy, Ya, unK, Zd, Zw, Nat.reduceBEq, Nat.reduceAdd, Int.reduceBEq, Int.reduceBNe, Int.reduceLT, Zu, Zz, tup, tyf])
      clear hB
      try clear B
      refine Yj ?_
      simp (maxSteps := 2000000) only [s86, ↓Za, ↓Zj, ↓Zr, ↓Ze, ↓Zl, ↓Zs, ↓Zf, ↓Zm, ↓Zg, ↓Zb, ↓Zc, ↓vdn, vup, Zk, Zo, Zn, Zi, Zh, List.map_cons, List.map_nil, cond_true, cond_false, aop, Zv, Zq, Zp, ev, sput, Zt, Zy, Ya, unK, Zd, Zw, Nat.reduceBEq, Nat.reduceAdd, Int.reduceBEq, Int.reduceBNe, Int.reduceLT, Zu, Zz, tup, tyf, add1 (show k < 9223372036854775807 by omega)]
      exact hQ2 _ _ _ ⟨(k + 1, L.getD k 0), ⟨by simp only; omega, hk', hst1 hc⟩, by simp only; omega, by simp (maxSteps := 2000000) only [↓Za, ↓Zj, ↓Zr, ↓Ze, ↓Zl, ↓Zs, ↓Zf, ↓Zm, ↓Zg, ↓Zb, ↓Zc, ↓vdn, vup, Zk, Zo, Zn, Zi, Zh, List.map_cons, List.map_nil, cond_true, cond_false, aop, Zv, Zq, Zp, ev, sput, Zt, Zy, Ya, unK, Zd, Zw, Nat.reduceBEq, Nat.reduceAdd, Int.reduceBEq, Int.reduceBNe, Int.reduceLT, Zu, Zz, tup, tyf], rfl⟩
    · simp (maxSteps := 2000000) only [s86, ↓Za, ↓Zj, ↓Zr, ↓Ze, ↓Zl, ↓Zs, ↓Zf, ↓Zm, ↓Zg, ↓Zb, ↓Zc, ↓vdn, vup, Zk, Zo, Zn, Zi, Zh, List.map_cons, List.map_nil, cond_true, cond_false, aop, Zv, Zq, Zp, ev, sput, Zt, Zy, Ya, unK, Zd, Zw, Nat.reduceBEq, Nat.reduceAdd, Int.reduceBEq, Int.reduceBNe, Int.reduceLT, Zu, Zz, tup, tyf, decide_eq_false hc]
      refine hN25 [(0, v), (1, .func (.func 87) #[] #[]), (4, .int .i64 0), (5, Yb (m : Nat)), (6, Yb (k : Nat)), (27, .bool false)] _ _ ?_ (by simp (maxSteps := 2000000) only [↓Za, ↓Zj, ↓Zr, ↓Ze, ↓Zl, ↓Zs, ↓Zf, ↓Zm, ↓Zg, ↓Zb, ↓Zc, ↓vdn, vup, Zk, Zo, Zn, Zi, Zh, List.map_cons, List.map_nil, cond_true, cond_false, aop, Zv, Zq, Zp, ev, sput, Zt, Zy, Ya, unK, Zd, Zw, Nat.reduceBEq, Nat.reduceAdd, Int.reduceBEq, Int.reduceBNe, Int.reduceLT, Zu, Zz, tup, tyf])
      clear hN25
      try clear N25
      refine Xf rfl ?_
      refine Yj ?_
      simp (maxSteps := 2000000) only [s86, ↓Za, ↓Zj, ↓Zr, ↓Ze, ↓Zl, ↓Zs, ↓Zf, ↓Zm, ↓Zg, ↓Zb, ↓Zc, ↓vdn, vup, Zk, Zo, Zn, Zi, Zh, List.map_cons, List.map_nil, cond_true, cond_false, aop, Zv, Zq, Zp, ev, sput, Zt, Zy, Ya, unK, Zd, Zw, Nat.reduceBEq, Nat.reduceAdd, Int.reduceBEq, Int.reduceBNe, Int.reduceLT, Zu, Zz, tup, tyf]
      refine hB [(0, v), (1, .func (.func 87) #[] #[]), (4, .int .i64 0), (5, Yb (m : Nat)), (6, Yb (k : Nat))] _ _ ?_ (by simp (maxSteps := 2000000) only [↓Za, ↓Zj, ↓Zr, ↓Ze, ↓Zl, ↓Zs, ↓Zf, ↓Zm, ↓Zg, ↓Zb, ↓Zc, ↓vdn, vup, Zk, Zo, Zn, Zi, Zh, List.map_cons, List.map_nil, cond_true, cond_false, aop, Zv, Zq, Zp, ev, sput, Zt, Zy, Ya, unK, Zd, Zw, Nat.reduceBEq, Nat.reduceAdd, Int.reduceBEq, Int.reduceBNe, Int.reduceLT, Zu, Zz, tup, tyf])
      clear hB
      try clear B
      refine Yj ?_
      simp (maxSteps := 2000000) only [s86, ↓Za, ↓Zj, ↓Zr, ↓Ze, ↓Zl, ↓Zs, ↓Zf, ↓Zm, ↓Zg, ↓Zb, ↓Zc, ↓vdn, vup, Zk, Zo, Zn, Zi, Zh, List.map_cons, List.map_nil, cond_true, cond_false, aop, Zv, Zq, Zp, ev, sput, Zt, Zy, Ya, unK, Zd, Zw, Nat.reduceBEq, Nat.reduceAdd, Int.reduceBEq, Int.reduceBNe, Int.reduceLT, Zu, Zz, tup, tyf, add1 (show k < 9223372036854775807 by omega)]
      exact hQ2 _ _ _ ⟨(k + 1, m), ⟨by simp only; omega, hk', hst2 hc⟩, by simp only; omega, by simp (maxSteps := 2000000) only [↓Za, ↓Zj, ↓Zr, ↓Ze, ↓Zl, ↓Zs, ↓Zf, ↓Zm, ↓Zg, ↓Zb, ↓Zc, ↓vdn, vup, Zk, Zo, Zn, Zi, Zh, List.map_cons, List.map_nil, cond_true, cond_false, aop, Zv, Zq, Zp, ev, sput, Zt, Zy, Ya, unK, Zd, Zw, Nat.reduceBEq, Nat.reduceAdd, Int.reduceBEq, Int.reduceBNe, Int.reduceLT, Zu, Zz, tup, tyf], rfl⟩
  · obtain rfl : k = L.length := by omega
    refine Yu fun C hC => ?_
    refine Yc fun N26 hN26 => ?_
    simp (maxSteps := 2000000) only [s86, ↓Za, ↓Zj, ↓Zr, ↓Ze, ↓Zl, ↓Zs, ↓Zf, ↓Zm, ↓Zg, ↓Zb, ↓Zc, ↓vdn, vup, Zk, Zo, Zn, Zi, Zh, List.map_cons, List.map_nil, cond_true, cond_false, aop, Zv, Zq, Zp, ev, sput, Zt, Zy, Ya, unK, Zd, Zw, Nat.reduceBEq, Nat.reduceAdd, Int.reduceBEq, Int.reduceBNe, Int.reduceLT, Zu, Zz, tup, tyf, hv.len, hlen, hin]
    refine hN26 [(0, v), (1, .func (.func 87) #[] #[]), (4, .int .i64 0), (5, Yb (m : Nat)), (6, Yb L.length), (17, .bool false)] _ _ ?_ (by simp (maxSteps := 2000000) only [↓Za, ↓Zj, ↓Zr, ↓Ze, ↓Zl, ↓Zs, ↓Zf, ↓Zm, ↓Zg, ↓Zb, ↓Zc, ↓vdn, vup, Zk, Zo, Zn, Zi, Zh, List.map_cons, List.map_nil, cond_true, cond_false, aop, Zv, Zq, Zp, ev, sput, Zt, Zy, Ya, unK, Zd, Zw, Nat.reduceBEq, Nat.reduceAdd, Int.reduceBEq, Int.reduceBNe, Int.reduceLT, Zu, Zz, tup, tyf])
    clear hN26
    try clear N26
    refine Xf rfl ?_
    refine Yj ?_
    simp (maxSteps := 2000000) only [s86, ↓Za, ↓Zj, ↓Zr, ↓Ze, ↓Zl, ↓Zs, ↓Zf, ↓Zm, ↓Zg, ↓Zb, ↓Zc, ↓vdn, vup, Zk, Zo, Zn, Zi, Zh, List.map_cons, List.map_nil, cond_true, cond_false, aop, Zv, Zq, Zp, ev, sput, Zt, Zy, Ya, unK, Zd, Zw, Nat.reduceBEq, Nat.reduceAdd, Int.reduceBEq, Int.reduceBNe, Int.reduceLT, Zu, Zz, tup, tyf]
    refine hQ2 _ _ _ (hQ _ _ _ ?_)
    simp (maxSteps := 2000000) only [s86, ↓Za, ↓Zj, ↓Zr, ↓Ze, ↓Zl, ↓Zs, ↓Zf, ↓Zm, ↓Zg, ↓Zb, ↓Zc, ↓vdn, vup, Zk, Zo, Zn, Zi, Zh, List.map_cons, List.map_nil, cond_true, cond_false, aop, Zv, Zq, Zp, ev, sput, Zt, Zy, Ya, unK, Zd, Zw, Nat.reduceBEq, Nat.reduceAdd, Int.reduceBEq, Int.reduceBNe, Int.reduceLT, Zu, Zz, tup, tyf, if_true]
    refine hZ [(0, v), (1, .func (.func 87) #[] #[]), (4, .int .i64 0), (5, Yb (m : Nat)), (17, .bool false)] _ _ ?_ (by simp (maxSteps := 2000000) only [↓Za, ↓Zj, ↓Zr, ↓Ze, ↓Zl, ↓Zs, ↓Zf, ↓Zm, ↓Zg, ↓Zb, ↓Zc, ↓vdn, vup, Zk, Zo, Zn, Zi, Zh, List.map_cons, List.map_nil, cond_true, cond_false, aop, Zv, Zq, Zp, ev, sput, Zt, Zy, Ya, unK, Zd, Zw, Nat.reduceBEq, Nat.reduceAdd, Int.reduceBEq, Int.reduceBNe, Int.reduceLT, Zu, Zz, tup, tyf])
    clear hZ
    try clear Z
    refine Yj ?_
    simp (maxSteps := 2000000) only [s86, ↓Za, ↓Zj, ↓Zr, ↓Ze, ↓Zl, ↓Zs, ↓Zf, ↓Zm, ↓Zg, ↓Zb, ↓Zc, ↓vdn, vup, Zk, Zo, Zn, Zi, Zh, List.map_cons, List.map_nil, cond_true, cond_false, aop, Zv, Zq, Zp, ev, sput, Zt, Zy, Ya, unK, Zd, Zw, Nat.reduceBEq, Nat.reduceAdd, Int.reduceBEq, Int.reduceBNe, Int.reduceLT, Zu, Zz, tup, tyf]
    exact ⟨m, rfl, hm⟩

theorem s84_callW [Tabs Tryd.prog] {args : List Value} {h : Zx} {Q : Value → Zx → Prop} (hsz : args.length ≤ 8) (hk : AWS Tryd.prog 8 s84 (Zu Tryd.prog [.tmp 3] Q) (Zp 0 args) h) : ACall Tryd.prog 84 args h Q :=
  Wa Tryd.func84 rfl (enters_of Tryd.func84 (by kernel_rfl) rfl) rfl rfl (by decide) s84_strip s84_ok hsz hk
theorem anti1_call [BitTab prog 1] {h : Zx} {bo : Nat} {o : List Int} {s : Nat} (ho : ord o = true) (hs : s < 2 ^ o.length) (hb : h[bo]? = some (.cells (Wx o) 77 false)) : Wv prog 84 [Yb (s : Nat), .pointer (some ⟨bo, 0, none⟩)] h (.bool (uni o s true)) := by
  have hl := Yx ho
  have hp := pow6 hl.2
  have hpc := two_call (h := h) (s := s) (fn := 68) (first := #[ordV o]) (cap := #[]) (by omega) (fun i j => fr o i j == true) fun i j h' hi hj hji hE => by
    rw [show (fr o i j == true) = fr o i j by cases fr o i j <;> rfl]
    exact free_call ho (lt_bit hs hi) (lt_bit hs hj)
  rw [prB_uni hs hl.2] at hpc
  refine s84_callW (by simp) ?_
  refine Yj ?_
  simp (maxSteps := 2000000) only [s84, ↓Za, ↓Zj, ↓Zr, ↓Ze, ↓Zl, ↓Zs, ↓Zf, ↓Zm, ↓Zg, ↓Zb, ↓Zc, ↓vdn, vup, Zk, Zo, Zn, Zi, Zh, List.map_cons, List.map_nil, cond_true, cond_false, aop, Zv, Zq, Zp, ev, sput, Zt, Zy, Ya, unK, Zd, Zw, Nat.reduceBEq, Nat.reduceAdd, Int.reduceBEq, Int.reduceBNe, Int.reduceLT, Zu, Zz, tup, tyf, Yr, List.nil_append, List.append_nil, List.toList_toArray, List.cons_append, loadO hb Xa hl.2, List.map_toArray]
  refine (hpc).mono ?_
  rintro _ h ⟨rfl, rfl⟩
  simp (maxSteps := 2000000) only [s84, ↓Za, ↓Zj, ↓Zr, ↓Ze, ↓Zl, ↓Zs, ↓Zf, ↓Zm, ↓Zg, ↓Zb, ↓Zc, ↓vdn, vup, Zk, Zo, Zn, Zi, Zh, List.map_cons, List.map_nil, cond_true, cond_false, aop, Zv, Zq, Zp, ev, sput, Zt, Zy, Ya, unK, Zd, Zw, Nat.reduceBEq, Nat.reduceAdd, Int.reduceBEq, Int.reduceBNe, Int.reduceLT, Zu, Zz, tup, tyf]

/-- What Anti hands back. -/
def antiV (o : List Int) : Value := if ord o = true then .tuple #[Yb (Wj o : Nat), .int .i64 0] else .tuple #[.int .i64 0, .int .i64 2]
theorem anti_call [BitTab prog 1] {h : Zx} {v : Value} {o : List Int} (hv : IntSl h v o) (hl : o.length < 9223372036854775808) (hx : ∀ x ∈ o, -9223372036854775808 ≤ x ∧ x < 9223372036854775808) : Wv prog 48 [v] h (antiV o) := by
  have hlow : Low (antiV o) := by unfold antiV; split <;> exact .pair (.int _ _) (.int _ _)
  refine ACall.forget hlow ?_
  refine s48_call (by simp) ?_
  simp only [s48]
  simp (maxSteps := 2000000) only [s48, ↓Za, ↓Zj, ↓Zr, ↓Ze, ↓Zl, ↓Zs, ↓Zf, ↓Zm, ↓Zg, ↓Zb, ↓Zc, ↓vdn, vup, Zk, Zo, Zn, Zi, Zh, List.map_cons, List.map_nil, cond_true, cond_false, aop, Zv, Zq, Zp, ev, sput, Zt, Zy, Ya, unK, Zd, Zw, Nat.reduceBEq, Nat.reduceAdd, Int.reduceBEq, Int.reduceBNe, Int.reduceLT, Zu, Zz, tup, tyf, Yr, List.nil_append, List.append_nil, List.toList_toArray, List.cons_append]
  refine (read_call hv hl hx).mono ?_
  rintro _ g ⟨rfl, rfl⟩
  simp (maxSteps := 2000000) only [s48, ↓Za, ↓Zj, ↓Zr, ↓Ze, ↓Zl, ↓Zs, ↓Zf, ↓Zm, ↓Zg, ↓Zb, ↓Zc, ↓vdn, vup, Zk, Zo, Zn, Zi, Zh, List.map_cons, List.map_nil, cond_true, cond_false, aop, Zv, Zq, Zp, ev, sput, Zt, Zy, Ya, unK, Zd, Zw, Nat.reduceBEq, Nat.reduceAdd, Int.reduceBEq, Int.reduceBNe, Int.reduceLT, Zu, Zz, tup, tyf, Wo, Wk, zeroN, zero_77]
  rw [storeRd]
  obtain ⟨hE, hb⟩ := rdBox g o
  generalize hgl : g.length = gl at hE hb ⊢
  generalize (g ++ [Blk.cells (ordN 0) 77 false]).set gl (.cells (rdC o) 77 false) = G at hE hb ⊢
  cases ho : ord o with
  | false =>
    simp (maxSteps := 2000000) only [s48, ↓Za, ↓Zj, ↓Zr, ↓Ze, ↓Zl, ↓Zs, ↓Zf, ↓Zm, ↓Zg, ↓Zb, ↓Zc, ↓vdn, vup, Zk, Zo, Zn, Zi, Zh, List.map_cons, List.map_nil, cond_true, cond_false, aop, Zv, Zq, Zp, ev, sput, Zt, Zy, Ya, unK, Zd, Zw, Nat.reduceBEq, Nat.reduceAdd, Int.reduceBEq, Int.reduceBNe, Int.reduceLT, Zu, Zz, tup, tyf, ho]
    rw [antiV, ho]
    exact ⟨rfl, hE⟩
  | true =>
    have hln := Yx ho
    have hp := pow6 hln.2
    have hrd : rdC o = Wx o := if_pos hln
    rw [hrd] at hb
    simp (maxSteps := 2000000) only [s48, ↓Za, ↓Zj, ↓Zr, ↓Ze, ↓Zl, ↓Zs, ↓Zf, ↓Zm, ↓Zg, ↓Zb, ↓Zc, ↓vdn, vup, Zk, Zo, Zn, Zi, Zh, List.map_cons, List.map_nil, cond_true, cond_false, aop, Zv, Zq, Zp, ev, sput, Zt, Zy, Ya, unK, Zd, Zw, Nat.reduceBEq, Nat.reduceAdd, Int.reduceBEq, Int.reduceBNe, Int.reduceLT, Zu, Zz, tup, tyf, ho, loadO hb Xa hln.2, List.map_toArray, Yr, List.nil_append, List.append_nil, List.toList_toArray, List.cons_append]
    refine (sets_call ho (fun s => uni o s true) fun s h' hs hE' => ?_).mono ?_
    · exact anti1_call ho hs ((hE'.2 _ (Yz hb) id).trans hb)
    rintro r H ⟨hr, hEH, _⟩
    have hm0 : 0 ∈ setsL o fun s => uni o s true := mem_setsL.2 ⟨by omega, by simp [uni]⟩
    have hfl := filter_len (fun s => uni o s true) (2 ^ o.length)
    refine (minS_call hr.int (setsL_sorted _ _) (fun x hx => by have := (mem_setsL.1 hx).1; omega) (List.length_pos_of_mem hm0) (by rw [setsL]; omega)).mono ?_
    rintro _ _ ⟨rfl, m, rfl, hm⟩
    rw [minI_anti hp.2 hm, antiV, ho]
    simp (maxSteps := 2000000) only [s48, ↓Za, ↓Zj, ↓Zr, ↓Ze, ↓Zl, ↓Zs, ↓Zf, ↓Zm, ↓Zg, ↓Zb, ↓Zc, ↓vdn, vup, Zk, Zo, Zn, Zi, Zh, List.map_cons, List.map_nil, cond_true, cond_false, aop, Zv, Zq, Zp, ev, sput, Zt, Zy, Ya, unK, Zd, Zw, Nat.reduceBEq, Nat.reduceAdd, Int.reduceBEq, Int.reduceBNe, Int.reduceLT, Zu, Zz, tup, tyf]
    exact ⟨rfl, hE.trans hEH⟩
end Go.Proofs.Tryd.Am

namespace Go.Proofs.Tryd.Am
open Go.Am Ord
set_option maxRecDepth 100000
set_option maxHeartbeats 4000000

/-- A table of the fewest chains, the sets below s filled in. -/
structure TabI (o : List Int) (T : List Int) (s : Nat) : Prop where
  len : T.length = 2 ^ o.length
  get : ∀ t, t < s → T.getD t 0 = (fw o t : Nat)
theorem getD_setI {L : List Int} {s i : Nat} {x : Int} (hs : s < L.length) : (L.set s x).getD i 0 = if i = s then x else L.getD i 0 := by
  rw [List.getD, List.getElem?_set]
  by_cases h : s = i
  · subst h; simp [hs]
  · rw [if_neg h, if_neg (Ne.symm h)]; rfl
theorem TabI.put {o : List Int} {T : List Int} {s : Nat} (h : TabI o T s) (hs : s < 2 ^ o.length) (x : Int) : TabI o (T.set s x) s ∧ (T.set s x).getD s 0 = x :=
  ⟨⟨by rw [List.length_set, h.len], fun t ht => by rw [getD_setI (by rw [h.len]; exact hs), if_neg (by omega)]; exact h.get t ht⟩, by rw [getD_setI (by rw [h.len]; exact hs), if_pos rfl]⟩
theorem TabI.next {o : List Int} {T : List Int} {s : Nat} (h : TabI o T s) (hx : T.getD s 0 = (fw o s : Nat)) : TabI o T (s + 1) :=
  ⟨h.len, fun t ht => by
    by_cases he : t = s
    · rw [he, hx]
    · exact h.get t (by omega)⟩
theorem fw_le6 {o : List Int} (ho : ord o = true) {t : Nat} (ht : t < 2 ^ o.length) : fw o t ≤ 6 := by
  have := fw_le (o := o) ht
  have := (Yx ho).2; omega
/-- The best so far, over some first chains. -/
structure BstI (o : List Int) (s : Nat) (S : Nat → Prop) (x : Nat) : Prop where
  ge : fw o s ≤ x
  le : ∀ c, S c → okC o s c → x ≤ 1 + fw o (Xi s c)
theorem BstI.fin {o : List Int} {s x : Nat} {S : Nat → Prop} (h : BstI o s S x) (h0 : s ≠ 0) (hS : ∀ c, okC o s c → S c) : x = fw o s := by
  obtain ⟨c, hc, he⟩ := fw_first (o := o) h0
  have := h.le c (hS c hc) hc
  have := h.ge
  omega
theorem sub_leN {s c : Nat} (h : Xi c s = 0) : c ≤ s := by
  have : c = c &&& s := Nat.eq_of_testBit_eq fun k => by
    rw [Nat.testBit_and]
    cases hk : c.testBit k with
    | false => rfl
    | true => rw [Wr.1 h k hk]; rfl
  rw [this]; exact Nat.and_le_right
theorem andNot_eq {a b : Nat} (ha : a < 64) (hb : b < 64) : Wg .andNot .i64 ((a : Nat) : Int) ((b : Nat) : Int) = ((Xi a b : Nat) : Int) := Wp (by omega) (by omega)

end Go.Proofs.Tryd.Am

namespace Go.Proofs.Tryd.Am
open Go.Am Ord
set_option maxRecDepth 100000
set_option maxHeartbeats 4000000

theorem s97_callW [Tabs Tryd.prog] {args : List Value} {h : Zx} {Q : Value → Zx → Prop} (hsz : args.length ≤ 11) (hk : AWS Tryd.prog 11 s97 (Zu Tryd.prog [.tmp 5] Q) (Zp 0 args) h) : ACall Tryd.prog 97 args h Q :=
  Wa Tryd.func97 rfl (enters_of Tryd.func97 (by kernel_rfl) rfl) rfl rfl (by decide) s97_strip s97_ok hsz hk
theorem chains2_call [Tabs prog] {h : Zx} {bo : Nat} {o : List Int} (ho : ord o = true) (hb : h[bo]? = some (.cells (Wx o) 77 false)) {i j : Nat} (hi : i < o.length) (hj : j < o.length) : Wv prog 97 [Yb (i : Nat), Yb (j : Nat), .pointer (some ⟨bo, 0, none⟩)] h (.bool (fr o i j == false)) := by
  have hl := Yx ho
  refine s97_callW (by simp) ?_
  refine Yj ?_
  simp (maxSteps := 2000000) only [s97, ↓Za, ↓Zj, ↓Zr, ↓Ze, ↓Zl, ↓Zs, ↓Zf, ↓Zm, ↓Zg, ↓Zb, ↓Zc, ↓vdn, vup, Zk, Zo, Zn, Zi, Zh, List.map_cons, List.map_nil, cond_true, cond_false, aop, Zv, Zq, Zp, ev, sput, Zt, Zy, Ya, unK, Zd, Zw, Nat.reduceBEq, Nat.reduceAdd, Int.reduceBEq, Int.reduceBNe, Int.reduceLT, Zu, Zz, tup, tyf, Yr, List.nil_append, List.append_nil, List.toList_toArray, List.cons_append, loadO hb Xa hl.2]
  refine (free_call ho hi hj).mono ?_
  rintro _ h ⟨rfl, rfl⟩
  rw [show (fr o i j == false) = !fr o i j by cases fr o i j <;> rfl]
  simp (maxSteps := 2000000) only [s97, ↓Za, ↓Zj, ↓Zr, ↓Ze, ↓Zl, ↓Zs, ↓Zf, ↓Zm, ↓Zg, ↓Zb, ↓Zc, ↓vdn, vup, Zk, Zo, Zn, Zi, Zh, List.map_cons, List.map_nil, cond_true, cond_false, aop, Zv, Zq, Zp, ev, sput, Zt, Zy, Ya, unK, Zd, Zw, Nat.reduceBEq, Nat.reduceAdd, Int.reduceBEq, Int.reduceBNe, Int.reduceLT, Zu, Zz, tup, tyf]
theorem s96_callW [Tabs Tryd.prog] {args : List Value} {h : Zx} {Q : Value → Zx → Prop} (hsz : args.length ≤ 11) (hk : AWS Tryd.prog 11 s96 (Zu Tryd.prog [.tmp 3] Q) (Zp 0 args) h) : ACall Tryd.prog 96 args h Q :=
  Wa Tryd.func96 rfl (enters_of Tryd.func96 (by kernel_rfl) rfl) rfl rfl (by decide) s96_strip s96_ok hsz hk
theorem chains1_call [BitTab prog 1] {h : Zx} {bo : Nat} {o : List Int} {s : Nat} (ho : ord o = true) (hs : s < 2 ^ o.length) (hb : h[bo]? = some (.cells (Wx o) 77 false)) : Wv prog 96 [Yb (s : Nat), .pointer (some ⟨bo, 0, none⟩)] h (.bool (decide (0 < s) && uni o s false)) := by
  have hl := Yx ho
  have hp := pow6 hl.2
  have hpc := two_call (h := h) (s := s) (fn := 97) (first := #[]) (cap := #[.pointer (some ⟨bo, 0, none⟩)]) (by omega) (fun i j => fr o i j == false) fun i j h' hi hj hji hE =>
    chains2_call ho ((hE.2 _ (Yz hb) id).trans hb) (lt_bit hs hi) (lt_bit hs hj)
  rw [prB_uni hs hl.2] at hpc
  refine s96_callW (by simp) ?_
  refine Yj ?_
  by_cases h0 : 0 < s
  · have h0' : (0 : Int) < (s : Nat) := by omega
    simp (maxSteps := 2000000) only [s96, ↓Za, ↓Zj, ↓Zr, ↓Ze, ↓Zl, ↓Zs, ↓Zf, ↓Zm, ↓Zg, ↓Zb, ↓Zc, ↓vdn, vup, Zk, Zo, Zn, Zi, Zh, List.map_cons, List.map_nil, cond_true, cond_false, aop, Zv, Zq, Zp, ev, sput, Zt, Zy, Ya, unK, Zd, Zw, Nat.reduceBEq, Nat.reduceAdd, Int.reduceBEq, Int.reduceBNe, Int.reduceLT, Zu, Zz, tup, tyf, Yr, List.nil_append, List.append_nil, List.toList_toArray, List.cons_append, gt_iff_lt, decide_eq_true h0', List.map_toArray]
    refine (hpc).mono ?_
    rintro _ h ⟨rfl, rfl⟩
    simp (maxSteps := 2000000) only [s96, ↓Za, ↓Zj, ↓Zr, ↓Ze, ↓Zl, ↓Zs, ↓Zf, ↓Zm, ↓Zg, ↓Zb, ↓Zc, ↓vdn, vup, Zk, Zo, Zn, Zi, Zh, List.map_cons, List.map_nil, cond_true, cond_false, aop, Zv, Zq, Zp, ev, sput, Zt, Zy, Ya, unK, Zd, Zw, Nat.reduceBEq, Nat.reduceAdd, Int.reduceBEq, Int.reduceBNe, Int.reduceLT, Zu, Zz, tup, tyf, decide_eq_true h0, Bool.true_and]
  · have h0' : ¬ (0 : Int) < (s : Nat) := by omega
    simp (maxSteps := 2000000) only [s96, ↓Za, ↓Zj, ↓Zr, ↓Ze, ↓Zl, ↓Zs, ↓Zf, ↓Zm, ↓Zg, ↓Zb, ↓Zc, ↓vdn, vup, Zk, Zo, Zn, Zi, Zh, List.map_cons, List.map_nil, cond_true, cond_false, aop, Zv, Zq, Zp, ev, sput, Zt, Zy, Ya, unK, Zd, Zw, Nat.reduceBEq, Nat.reduceAdd, Int.reduceBEq, Int.reduceBNe, Int.reduceLT, Zu, Zz, tup, tyf, gt_iff_lt, decide_eq_false h0', decide_eq_false h0, Bool.false_and]

/-- The chains that the program looks at. -/
def chnL (o : List Int) : List Nat := setsL o fun s => decide (0 < s) && uni o s false
theorem mem_chnL {o : List Int} {c : Nat} : c ∈ chnL o ↔ c < 2 ^ o.length ∧ c ≠ 0 ∧ uni o c false = true := by
  rw [chnL, mem_setsL, Bool.and_eq_true, decide_eq_true_eq]
  exact and_congr_right fun _ => and_congr_left fun _ => by omega
/-- What Chains hands back. -/
def ChainsIs (o : List Int) (h' : Zx) (x : Value) (e : Int) : Prop :=
  if ord o = true then e = 0 ∧ ∃ L cs : List Nat, Part o (2 ^ o.length - 1) cs ∧ cs.length = fw o (2 ^ o.length - 1) ∧ L.Perm cs ∧ L.Pairwise (fun a b => a ≤ b) ∧ OwnSl 3 h' x (iL L) else x = .slice none 0 0 ∧ e = 2
theorem part_app {o : List Int} {s c : Nat} {pre : List Nat} (hpre : ∀ rest, Part o s rest → Part o (2 ^ o.length - 1) (pre ++ rest)) (hc : okC o s c) : ∀ rest, Part o (Xi s c) rest → Part o (2 ^ o.length - 1) ((pre ++ [c]) ++ rest) := fun rest hr => by
  rw [List.append_assoc]
  exact hpre (c :: rest) ⟨hc.1, hc.2.1, hc.2.2, hr⟩

/-- The second table: which chain comes first. -/
def FstI (o : List Int) (F : List Int) (s : Nat) : Prop := F.length = 2 ^ o.length ∧ ∀ t, 0 < t → t < s → ∃ c : Nat, F.getD t 0 = (c : Nat) ∧ okC o t c ∧ fw o t = 1 + fw o (Xi t c)

theorem s57_callW [Tabs Tryd.prog] {args : List Value} {h : Zx} {Q : Value → Zx → Prop} (hsz : args.length ≤ 103) (hk : AWS Tryd.prog 103 s57 (Zu Tryd.prog [.tmp 2, .tmp 3] Q) (Zp 0 args) h) : ACall Tryd.prog 57 args h Q :=
  Wa Tryd.func57 rfl (enters_of Tryd.func57 (by kernel_rfl) rfl) rfl rfl (by decide) s57_strip s57_ok hsz hk
theorem chains_call [BitTab prog 1] {h : Zx} {v : Value} {o : List Int} (hv : IntSl h v o) (hl : o.length < 9223372036854775808) (hx : ∀ x ∈ o, -9223372036854775808 ≤ x ∧ x < 9223372036854775808) :
    ACall prog 57 [v] h fun r h' => Ext (fun _ => False) h h' ∧ ∃ x e, r = .tuple #[x, .int .i64 e] ∧ ChainsIs o h' x e := by
  refine s57_callW (by simp) ?_
  simp only [s57]
  refine Yc fun N1 hN1 => ?_
  simp (maxSteps := 2000000) only [s57, ↓Za, ↓Zj, ↓Zr, ↓Ze, ↓Zl, ↓Zs, ↓Zf, ↓Zm, ↓Zg, ↓Zb, ↓Zc, ↓vdn, vup, Zk, Zo, Zn, Zi, Zh, List.map_cons, List.map_nil, cond_true, cond_false, aop, Zv, Zq, Zp, ev, sput, Zt, Zy, Ya, unK, Zd, Zw, Nat.reduceBEq, Nat.reduceAdd, Int.reduceBEq, Int.reduceBNe, Int.reduceLT, Zu, Zz, tup, tyf]
  refine hN1 [(0, v), (2, .slice none 0 0), (3, .int .i64 0)] _ _ ?_ (by simp (maxSteps := 2000000) only [↓Za, ↓Zj, ↓Zr, ↓Ze, ↓Zl, ↓Zs, ↓Zf, ↓Zm, ↓Zg, ↓Zb, ↓Zc, ↓vdn, vup, Zk, Zo, Zn, Zi, Zh, List.map_cons, List.map_nil, cond_true, cond_false, aop, Zv, Zq, Zp, ev, sput, Zt, Zy, Ya, unK, Zd, Zw, Nat.reduceBEq, Nat.reduceAdd, Int.reduceBEq, Int.reduceBNe, Int.reduceLT, Zu, Zz, tup, tyf])
  clear hN1
  try clear N1
  refine Yc fun N2 hN2 => ?_
  simp (maxSteps := 2000000) only [s57, ↓Za, ↓Zj, ↓Zr, ↓Ze, ↓Zl, ↓Zs, ↓Zf, ↓Zm, ↓Zg, ↓Zb, ↓Zc, ↓vdn, vup, Zk, Zo, Zn, Zi, Zh, List.map_cons, List.map_nil, cond_true, cond_false, aop, Zv, Zq, Zp, ev, sput, Zt, Zy, Ya, unK, Zd, Zw, Nat.reduceBEq, Nat.reduceAdd, Int.reduceBEq, Int.reduceBNe, Int.reduceLT, Zu, Zz, tup, tyf, Yr, List.nil_append, List.append_nil, List.toList_toArray, List.cons_append]
  refine (read_call hv hl hx).mono ?_
  rintro _ g ⟨rfl, rfl⟩
  simp (maxSteps := 2000000) only [s57, ↓Za, ↓Zj, ↓Zr, ↓Ze, ↓Zl, ↓Zs, ↓Zf, ↓Zm, ↓Zg, ↓Zb, ↓Zc, ↓vdn, vup, Zk, Zo, Zn, Zi, Zh, List.map_cons, List.map_nil, cond_true, cond_false, aop, Zv, Zq, Zp, ev, sput, Zt, Zy, Ya, unK, Zd, Zw, Nat.reduceBEq, Nat.reduceAdd, Int.reduceBEq, Int.reduceBNe, Int.reduceLT, Zu, Zz, tup, tyf, Wo, Wk, zeroN, zero_77]
  rw [storeRd]
  obtain ⟨hE, hb⟩ := rdBox g o
  generalize hgl : g.length = gl at hE hb ⊢
  generalize (g ++ [Blk.cells (ordN 0) 77 false]).set gl (.cells (rdC o) 77 false) = G at hE hb ⊢
  refine hN2 [(2, .slice none 0 0), (3, .int .i64 0), (4, .pointer (some ⟨gl, 0, none⟩)), (5, .bool (ord o))] _ _ ?_ (by simp (maxSteps := 2000000) only [↓Za, ↓Zj, ↓Zr, ↓Ze, ↓Zl, ↓Zs, ↓Zf, ↓Zm, ↓Zg, ↓Zb, ↓Zc, ↓vdn, vup, Zk, Zo, Zn, Zi, Zh, List.map_cons, List.map_nil, cond_true, cond_false, aop, Zv, Zq, Zp, ev, sput, Zt, Zy, Ya, unK, Zd, Zw, Nat.reduceBEq, Nat.reduceAdd, Int.reduceBEq, Int.reduceBNe, Int.reduceLT, Zu, Zz, tup, tyf])
  clear hN2
  try clear N2
  refine Yu fun M hM => ?_
  cases ho : ord o with
  | false =>
    refine Yc fun N3 hN3 => ?_
    simp (maxSteps := 2000000) only [s57, ↓Za, ↓Zj, ↓Zr, ↓Ze, ↓Zl, ↓Zs, ↓Zf, ↓Zm, ↓Zg, ↓Zb, ↓Zc, ↓vdn, vup, Zk, Zo, Zn, Zi, Zh, List.map_cons, List.map_nil, cond_true, cond_false, aop, Zv, Zq, Zp, ev, sput, Zt, Zy, Ya, unK, Zd, Zw, Nat.reduceBEq, Nat.reduceAdd, Int.reduceBEq, Int.reduceBNe, Int.reduceLT, Zu, Zz, tup, tyf, Bool.not_false]
    refine hN3 [(2, .slice none 0 0), (3, .int .i64 0), (4, .pointer (some ⟨gl, 0, none⟩)), (5, .bool false), (20, .bool true)] _ _ ?_ (by simp (maxSteps := 2000000) only [↓Za, ↓Zj, ↓Zr, ↓Ze, ↓Zl, ↓Zs, ↓Zf, ↓Zm, ↓Zg, ↓Zb, ↓Zc, ↓vdn, vup, Zk, Zo, Zn, Zi, Zh, List.map_cons, List.map_nil, cond_true, cond_false, aop, Zv, Zq, Zp, ev, sput, Zt, Zy, Ya, unK, Zd, Zw, Nat.reduceBEq, Nat.reduceAdd, Int.reduceBEq, Int.reduceBNe, Int.reduceLT, Zu, Zz, tup, tyf])
    clear hN3
    try clear N3
    refine Ws rfl ?_
    refine Yj ?_
    simp (maxSteps := 2000000) only [s57, ↓Za, ↓Zj, ↓Zr, ↓Ze, ↓Zl, ↓Zs, ↓Zf, ↓Zm, ↓Zg, ↓Zb, ↓Zc, ↓vdn, vup, Zk, Zo, Zn, Zi, Zh, List.map_cons, List.map_nil, cond_true, cond_false, aop, Zv, Zq, Zp, ev, sput, Zt, Zy, Ya, unK, Zd, Zw, Nat.reduceBEq, Nat.reduceAdd, Int.reduceBEq, Int.reduceBNe, Int.reduceLT, Zu, Zz, tup, tyf]
    exact ⟨hE, _, _, rfl, by rw [ChainsIs, ho]; exact ⟨rfl, rfl⟩⟩
  | true =>
    have hln := Yx ho
    have hrd : rdC o = Wx o := if_pos hln
    rw [hrd] at hb
    refine Yc fun N4 hN4 => ?_
    simp (maxSteps := 2000000) only [s57, ↓Za, ↓Zj, ↓Zr, ↓Ze, ↓Zl, ↓Zs, ↓Zf, ↓Zm, ↓Zg, ↓Zb, ↓Zc, ↓vdn, vup, Zk, Zo, Zn, Zi, Zh, List.map_cons, List.map_nil, cond_true, cond_false, aop, Zv, Zq, Zp, ev, sput, Zt, Zy, Ya, unK, Zd, Zw, Nat.reduceBEq, Nat.reduceAdd, Int.reduceBEq, Int.reduceBNe, Int.reduceLT, Zu, Zz, tup, tyf, Bool.not_true]
    refine hN4 [(2, .slice none 0 0), (3, .int .i64 0), (4, .pointer (some ⟨gl, 0, none⟩)), (5, .bool true), (20, .bool false)] _ _ ?_ (by simp (maxSteps := 2000000) only [↓Za, ↓Zj, ↓Zr, ↓Ze, ↓Zl, ↓Zs, ↓Zf, ↓Zm, ↓Zg, ↓Zb, ↓Zc, ↓vdn, vup, Zk, Zo, Zn, Zi, Zh, List.map_cons, List.map_nil, cond_true, cond_false, aop, Zv, Zq, Zp, ev, sput, Zt, Zy, Ya, unK, Zd, Zw, Nat.reduceBEq, Nat.reduceAdd, Int.reduceBEq, Int.reduceBNe, Int.reduceLT, Zu, Zz, tup, tyf])
    clear hN4
    try clear N4
    refine Xf rfl ?_
    refine Yj ?_
    simp (maxSteps := 2000000) only [s57, ↓Za, ↓Zj, ↓Zr, ↓Ze, ↓Zl, ↓Zs, ↓Zf, ↓Zm, ↓Zg, ↓Zb, ↓Zc, ↓vdn, vup, Zk, Zo, Zn, Zi, Zh, List.map_cons, List.map_nil, cond_true, cond_false, aop, Zv, Zq, Zp, ev, sput, Zt, Zy, Ya, unK, Zd, Zw, Nat.reduceBEq, Nat.reduceAdd, Int.reduceBEq, Int.reduceBNe, Int.reduceLT, Zu, Zz, tup, tyf]
    refine hM [(2, .slice none 0 0), (3, .int .i64 0), (4, .pointer (some ⟨gl, 0, none⟩)), (5, .bool true)] _ _ ?_ (by simp (maxSteps := 2000000) only [↓Za, ↓Zj, ↓Zr, ↓Ze, ↓Zl, ↓Zs, ↓Zf, ↓Zm, ↓Zg, ↓Zb, ↓Zc, ↓vdn, vup, Zk, Zo, Zn, Zi, Zh, List.map_cons, List.map_nil, cond_true, cond_false, aop, Zv, Zq, Zp, ev, sput, Zt, Zy, Ya, unK, Zd, Zw, Nat.reduceBEq, Nat.reduceAdd, Int.reduceBEq, Int.reduceBNe, Int.reduceLT, Zu, Zz, tup, tyf])
    clear hM
    try clear M
    have sc := sets_call (h := G) (fn := 96) (cap := #[.pointer (some ⟨gl, 0, none⟩)]) ho (fun s => decide (0 < s) && uni o s false) fun s h' hs hE' => chains1_call ho hs ((hE'.2 _ (Yz hb) id).trans hb)
    refine Yc fun N5 hN5 => ?_
    simp (maxSteps := 2000000) only [s57, ↓Za, ↓Zj, ↓Zr, ↓Ze, ↓Zl, ↓Zs, ↓Zf, ↓Zm, ↓Zg, ↓Zb, ↓Zc, ↓vdn, vup, Zk, Zo, Zn, Zi, Zh, List.map_cons, List.map_nil, cond_true, cond_false, aop, Zv, Zq, Zp, ev, sput, Zt, Zy, Ya, unK, Zd, Zw, Nat.reduceBEq, Nat.reduceAdd, Int.reduceBEq, Int.reduceBNe, Int.reduceLT, Zu, Zz, tup, tyf, Yr, List.nil_append, List.append_nil, List.toList_toArray, List.cons_append, loadO hb Xa hln.2, List.map_toArray]
    refine (sc).mono ?_
    rintro r H1 ⟨hr, hE1, _⟩
    refine hN5 [(2, .slice none 0 0), (3, .int .i64 0), (4, .pointer (some ⟨gl, 0, none⟩)), (6, r)] _ _ ?_ (by simp (maxSteps := 2000000) only [↓Za, ↓Zj, ↓Zr, ↓Ze, ↓Zl, ↓Zs, ↓Zf, ↓Zm, ↓Zg, ↓Zb, ↓Zc, ↓vdn, vup, Zk, Zo, Zn, Zi, Zh, List.map_cons, List.map_nil, cond_true, cond_false, aop, Zv, Zq, Zp, ev, sput, Zt, Zy, Ya, unK, Zd, Zw, Nat.reduceBEq, Nat.reduceAdd, Int.reduceBEq, Int.reduceBNe, Int.reduceLT, Zu, Zz, tup, tyf])
    clear hN5
    try clear N5
    have hr2 : OwnSl 3 H1 r (iL (chnL o)) := hr
    clear hr sc
    have hadd := all_add hln.2
    have hallc := fun z => all_call (h := z) (o := o) hln.2
    have hp := pow6 hln.2
    obtain ⟨N, hN⟩ : ∃ N, N = 2 ^ o.length := ⟨_, rfl⟩
    rw [← hN] at hadd hp
    simp only [← hN] at hallc
    have hmk : ∀ {z : Zx} {K : Value → Zx → Prop}, makeK prog z 22 (Yb (N : Nat)) (Yb (N : Nat)) K = K (.slice (some ⟨z.length, 0, none⟩) N N) (z ++ [.ints (List.replicate N 0) 3 false]) := fun {z K} => makeI Xy zero_3 info_3 (by omega) (by omega)
    obtain ⟨n1, hn1⟩ : ∃ n, n = H1.length := ⟨_, rfl⟩
    have hb1 : H1[gl]? = some (.cells (Wx o) 77 false) := (hE1.2 _ (Yz hb) id).trans hb
    have hgl1 := Yz hb1
    refine Yc fun N6 hN6 => ?_
    simp (maxSteps := 2000000) only [s57, ↓Za, ↓Zj, ↓Zr, ↓Ze, ↓Zl, ↓Zs, ↓Zf, ↓Zm, ↓Zg, ↓Zb, ↓Zc, ↓vdn, vup, Zk, Zo, Zn, Zi, Zh, List.map_cons, List.map_nil, cond_true, cond_false, aop, Zv, Zq, Zp, ev, sput, Zt, Zy, Ya, unK, Zd, Zw, Nat.reduceBEq, Nat.reduceAdd, Int.reduceBEq, Int.reduceBNe, Int.reduceLT, Zu, Zz, tup, tyf, Yr, List.nil_append, List.append_nil, List.toList_toArray, List.cons_append, loadO hb1 Xa hln.2]
    refine (hallc H1).mono ?_
    rintro _ H1 ⟨rfl, rfl⟩
    simp (maxSteps := 2000000) only [s57, ↓Za, ↓Zj, ↓Zr, ↓Ze, ↓Zl, ↓Zs, ↓Zf, ↓Zm, ↓Zg, ↓Zb, ↓Zc, ↓vdn, vup, Zk, Zo, Zn, Zi, Zh, List.map_cons, List.map_nil, cond_true, cond_false, aop, Zv, Zq, Zp, ev, sput, Zt, Zy, Ya, unK, Zd, Zw, Nat.reduceBEq, Nat.reduceAdd, Int.reduceBEq, Int.reduceBNe, Int.reduceLT, Zu, Zz, tup, tyf, hadd, hmk]
    rw [← hn1]
    refine hN6 [(2, .slice none 0 0), (3, .int .i64 0), (4, .pointer (some ⟨gl, 0, none⟩)), (6, r), (7, .slice (some ⟨n1, 0, none⟩) N N)] _ _ ?_ (by simp (maxSteps := 2000000) only [↓Za, ↓Zj, ↓Zr, ↓Ze, ↓Zl, ↓Zs, ↓Zf, ↓Zm, ↓Zg, ↓Zb, ↓Zc, ↓vdn, vup, Zk, Zo, Zn, Zi, Zh, List.map_cons, List.map_nil, cond_true, cond_false, aop, Zv, Zq, Zp, ev, sput, Zt, Zy, Ya, unK, Zd, Zw, Nat.reduceBEq, Nat.reduceAdd, Int.reduceBEq, Int.reduceBNe, Int.reduceLT, Zu, Zz, tup, tyf])
    clear hN6
    try clear N6
    have hb2 : (H1 ++ [Blk.ints (List.replicate N 0) 3 false])[gl]? = some (.cells (Wx o) 77 false) := get_old hb1 _
    refine Yc fun N7 hN7 => ?_
    simp (maxSteps := 2000000) only [s57, ↓Za, ↓Zj, ↓Zr, ↓Ze, ↓Zl, ↓Zs, ↓Zf, ↓Zm, ↓Zg, ↓Zb, ↓Zc, ↓vdn, vup, Zk, Zo, Zn, Zi, Zh, List.map_cons, List.map_nil, cond_true, cond_false, aop, Zv, Zq, Zp, ev, sput, Zt, Zy, Ya, unK, Zd, Zw, Nat.reduceBEq, Nat.reduceAdd, Int.reduceBEq, Int.reduceBNe, Int.reduceLT, Zu, Zz, tup, tyf, Yr, List.nil_append, List.append_nil, List.toList_toArray, List.cons_append, loadO hb2 Xa hln.2]
    refine (hallc _).mono ?_
    rintro _ _ ⟨rfl, rfl⟩
    simp (maxSteps := 2000000) only [s57, ↓Za, ↓Zj, ↓Zr, ↓Ze, ↓Zl, ↓Zs, ↓Zf, ↓Zm, ↓Zg, ↓Zb, ↓Zc, ↓vdn, vup, Zk, Zo, Zn, Zi, Zh, List.map_cons, List.map_nil, cond_true, cond_false, aop, Zv, Zq, Zp, ev, sput, Zt, Zy, Ya, unK, Zd, Zw, Nat.reduceBEq, Nat.reduceAdd, Int.reduceBEq, Int.reduceBNe, Int.reduceLT, Zu, Zz, tup, tyf, hadd, hmk, List.length_append, List.length_singleton]
    rw [← hn1]
    refine hN7 [(2, .slice none 0 0), (3, .int .i64 0), (4, .pointer (some ⟨gl, 0, none⟩)), (6, r), (7, .slice (some ⟨n1, 0, none⟩) N N), (8, .slice (some ⟨n1 + 1, 0, none⟩) N N)] _ _ ?_ (by simp (maxSteps := 2000000) only [↓Za, ↓Zj, ↓Zr, ↓Ze, ↓Zl, ↓Zs, ↓Zf, ↓Zm, ↓Zg, ↓Zb, ↓Zc, ↓vdn, vup, Zk, Zo, Zn, Zi, Zh, List.map_cons, List.map_nil, cond_true, cond_false, aop, Zv, Zq, Zp, ev, sput, Zt, Zy, Ya, unK, Zd, Zw, Nat.reduceBEq, Nat.reduceAdd, Int.reduceBEq, Int.reduceBNe, Int.reduceLT, Zu, Zz, tup, tyf])
    clear hN7
    try clear N7
    obtain ⟨X, hX⟩ : ∃ X : List Int → List Int → Zx, X = fun T F => H1 ++ [Blk.ints T 3 false] ++ [Blk.ints F 3 false] := ⟨_, rfl⟩
    have hX0 : H1 ++ [Blk.ints (List.replicate N 0) 3 false] ++ [Blk.ints (List.replicate N 0) 3 false] = X (List.replicate N 0) (List.replicate N 0) := by rw [hX]
    rw [hX0]
    have xT : ∀ T F, (X T F)[n1]? = some (.ints T 3 false) := fun T F => by rw [hX, hn1]; simp
    have xF : ∀ T F, (X T F)[n1 + 1]? = some (.ints F 3 false) := fun T F => by rw [hX, hn1]; simp
    have xE : ∀ T F, Ext (fun _ => False) H1 (X T F) := fun T F => by rw [hX]; simp only [List.append_assoc]; exact Ext.app _ _ _
    have xb : ∀ T F, (X T F)[gl]? = some (.cells (Wx o) 77 false) := fun T F => ((xE T F).2 _ hgl1 id).trans hb1
    have xl : ∀ T F, (X T F).length = n1 + 2 := fun T F => by rw [hX, hn1]; simp
    have setT : ∀ T F T', (X T F).set n1 (.ints T' 3 false) = X T' F := fun T F T' => by
      rw [hX, hn1]; simp only [List.append_assoc]
      rw [List.set_append_right _ _ (Nat.le_refl _), Nat.sub_self]; rfl
    have setF : ∀ T F F', (X T F).set (n1 + 1) (.ints F' 3 false) = X T F' := fun T F F' => by
      rw [hX, hn1]; simp only [List.append_assoc]
      rw [List.set_append_right _ _ (by omega), show H1.length + 1 - H1.length = 1 by omega]; rfl
    have hrX : ∀ T F, IntSl (X T F) r (iL (chnL o)) := fun T F => Wc hr2.int (xE T F)
    have f4 : ∀ {K : Value → Prop}, Xo prog 77 (.pointer (some ⟨gl, 0, none⟩)) 0 K = K (.pointer (some ⟨gl, 0, none⟩)) := fun {K} => by
      simp [Xo, fld_77_0, Xr]
    clear hX0 hX hmk hb2
    have hChl : (iL (chnL o)).length = (chnL o).length := iL_len _
    have hC64 : (chnL o).length ≤ N := by rw [chnL, setsL, ← hN]; exact filter_len _ _
    refine Yu fun Z hZ => ?_
    refine Yc fun N8 hN8 => ?_
    simp (maxSteps := 2000000) only [s57, ↓Za, ↓Zj, ↓Zr, ↓Ze, ↓Zl, ↓Zs, ↓Zf, ↓Zm, ↓Zg, ↓Zb, ↓Zc, ↓vdn, vup, Zk, Zo, Zn, Zi, Zh, List.map_cons, List.map_nil, cond_true, cond_false, aop, Zv, Zq, Zp, ev, sput, Zt, Zy, Ya, unK, Zd, Zw, Nat.reduceBEq, Nat.reduceAdd, Int.reduceBEq, Int.reduceBNe, Int.reduceLT, Zu, Zz, tup, tyf]
    refine hN8 [(2, .slice none 0 0), (3, .int .i64 0), (4, .pointer (some ⟨gl, 0, none⟩)), (6, r), (7, .slice (some ⟨n1, 0, none⟩) N N), (8, .slice (some ⟨n1 + 1, 0, none⟩) N N), (9, .int .i64 1)] _ _ ?_ (by simp (maxSteps := 2000000) only [↓Za, ↓Zj, ↓Zr, ↓Ze, ↓Zl, ↓Zs, ↓Zf, ↓Zm, ↓Zg, ↓Zb, ↓Zc, ↓vdn, vup, Zk, Zo, Zn, Zi, Zh, List.map_cons, List.map_nil, cond_true, cond_false, aop, Zv, Zq, Zp, ev, sput, Zt, Zy, Ya, unK, Zd, Zw, Nat.reduceBEq, Nat.reduceAdd, Int.reduceBEq, Int.reduceBNe, Int.reduceLT, Zu, Zz, tup, tyf])
    clear hN8
    try clear N8
    refine Yp ?_
    refine Yo fun Q hQ => ?_
    refine Wm (γ := Nat × List Int × List Int) (fun s => 1 ≤ s.1 ∧ s.1 ≤ N ∧ TabI o s.2.1 s.1 ∧ FstI o s.2.2 s.1)
      (fun s => ([(2, .slice none 0 0), (3, .int .i64 0), (4, .pointer (some ⟨gl, 0, none⟩)), (6, r), (7, .slice (some ⟨n1, 0, none⟩) N N), (8, .slice (some ⟨n1 + 1, 0, none⟩) N N), (9, Yb (s.1 : Nat))], X s.2.1 s.2.2)) (fun s => N - s.1) (1, List.replicate N 0, List.replicate N 0) ⟨Nat.le_refl _, by omega, ⟨by simp [hN], fun t ht => by rw [show t = 0 by omega, fw_zero]; cases N <;> simp [List.getD]⟩, by simp [hN], fun t h0 ht => by omega⟩ (by simp (maxSteps := 2000000) only [↓Za, ↓Zj, ↓Zr, ↓Ze, ↓Zl, ↓Zs, ↓Zf, ↓Zm, ↓Zg, ↓Zb, ↓Zc, ↓vdn, vup, Zk, Zo, Zn, Zi, Zh, List.map_cons, List.map_nil, cond_true, cond_false, aop, Zv, Zq, Zp, ev, sput, Zt, Zy, Ya, unK, Zd, Zw, Nat.reduceBEq, Nat.reduceAdd, Int.reduceBEq, Int.reduceBNe, Int.reduceLT, Zu, Zz, tup, tyf, Int.natCast_one]) rfl ?_
    rintro ⟨s, T, F⟩ ⟨hs1, hs, hT, hF⟩
    simp only at hs1 hs hT hF
    refine Yo fun Q2 hQ2 => ?_
    simp only [l57_1]
    refine Yu fun C hC => ?_
    refine Yc fun N9 hN9 => ?_
    simp (maxSteps := 2000000) only [s57, ↓Za, ↓Zj, ↓Zr, ↓Ze, ↓Zl, ↓Zs, ↓Zf, ↓Zm, ↓Zg, ↓Zb, ↓Zc, ↓vdn, vup, Zk, Zo, Zn, Zi, Zh, List.map_cons, List.map_nil, cond_true, cond_false, aop, Zv, Zq, Zp, ev, sput, Zt, Zy, Ya, unK, Zd, Zw, Nat.reduceBEq, Nat.reduceAdd, Int.reduceBEq, Int.reduceBNe, Int.reduceLT, Zu, Zz, tup, tyf, Yr, List.nil_append, List.append_nil, List.toList_toArray, List.cons_append, loadO (xb T F) Xa hln.2]
    refine (hallc _).mono ?_
    rintro _ _ ⟨rfl, rfl⟩
    by_cases hin : (s : Int) ≤ ((N - 1 : Nat) : Int)
    · have hs' : s < N := by omega
      have hs2 : s < 2 ^ o.length := by omega
      simp (maxSteps := 2000000) only [s57, ↓Za, ↓Zj, ↓Zr, ↓Ze, ↓Zl, ↓Zs, ↓Zf, ↓Zm, ↓Zg, ↓Zb, ↓Zc, ↓vdn, vup, Zk, Zo, Zn, Zi, Zh, List.map_cons, List.map_nil, cond_true, cond_false, aop, Zv, Zq, Zp, ev, sput, Zt, Zy, Ya, unK, Zd, Zw, Nat.reduceBEq, Nat.reduceAdd, Int.reduceBEq, Int.reduceBNe, Int.reduceLT, Zu, Zz, tup, tyf, hin]
      refine hN9 [(2, .slice none 0 0), (3, .int .i64 0), (4, .pointer (some ⟨gl, 0, none⟩)), (6, r), (7, .slice (some ⟨n1, 0, none⟩) N N), (8, .slice (some ⟨n1 + 1, 0, none⟩) N N), (9, Yb (s : Nat)), (35, .bool true)] _ _ ?_ (by simp (maxSteps := 2000000) only [↓Za, ↓Zj, ↓Zr, ↓Ze, ↓Zl, ↓Zs, ↓Zf, ↓Zm, ↓Zg, ↓Zb, ↓Zc, ↓vdn, vup, Zk, Zo, Zn, Zi, Zh, List.map_cons, List.map_nil, cond_true, cond_false, aop, Zv, Zq, Zp, ev, sput, Zt, Zy, Ya, unK, Zd, Zw, Nat.reduceBEq, Nat.reduceAdd, Int.reduceBEq, Int.reduceBNe, Int.reduceLT, Zu, Zz, tup, tyf])
      clear hN9
      try clear N9
      refine Ws rfl ?_
      refine Yj ?_
      simp (maxSteps := 2000000) only [s57, ↓Za, ↓Zj, ↓Zr, ↓Ze, ↓Zl, ↓Zs, ↓Zf, ↓Zm, ↓Zg, ↓Zb, ↓Zc, ↓vdn, vup, Zk, Zo, Zn, Zi, Zh, List.map_cons, List.map_nil, cond_true, cond_false, aop, Zv, Zq, Zp, ev, sput, Zt, Zy, Ya, unK, Zd, Zw, Nat.reduceBEq, Nat.reduceAdd, Int.reduceBEq, Int.reduceBNe, Int.reduceLT, Zu, Zz, tup, tyf]
      refine hC [(2, .slice none 0 0), (3, .int .i64 0), (4, .pointer (some ⟨gl, 0, none⟩)), (6, r), (7, .slice (some ⟨n1, 0, none⟩) N N), (8, .slice (some ⟨n1 + 1, 0, none⟩) N N), (9, Yb (s : Nat))] _ _ ?_ (by simp (maxSteps := 2000000) only [↓Za, ↓Zj, ↓Zr, ↓Ze, ↓Zl, ↓Zs, ↓Zf, ↓Zm, ↓Zg, ↓Zb, ↓Zc, ↓vdn, vup, Zk, Zo, Zn, Zi, Zh, List.map_cons, List.map_nil, cond_true, cond_false, aop, Zv, Zq, Zp, ev, sput, Zt, Zy, Ya, unK, Zd, Zw, Nat.reduceBEq, Nat.reduceAdd, Int.reduceBEq, Int.reduceBNe, Int.reduceLT, Zu, Zz, tup, tyf])
      clear hC
      try clear C
      refine Yu fun B hB => ?_
      refine Yp ?_
      have hTl : T.length = N := by rw [hT.len, hN]
      obtain ⟨hT1, hx1⟩ := hT.put hs2 ((o.length + 1 : Nat) : Int)
      refine Yc fun N10 hN10 => ?_
      simp (maxSteps := 2000000) only [s57, ↓Za, ↓Zj, ↓Zr, ↓Ze, ↓Zl, ↓Zs, ↓Zf, ↓Zm, ↓Zg, ↓Zb, ↓Zc, ↓vdn, vup, Zk, Zo, Zn, Zi, Zh, List.map_cons, List.map_nil, cond_true, cond_false, aop, Zv, Zq, Zp, ev, sput, Zt, Zy, Ya, unK, Zd, Zw, Nat.reduceBEq, Nat.reduceAdd, Int.reduceBEq, Int.reduceBNe, Int.reduceLT, Zu, Zz, tup, tyf, f4, loadN (xb T F) Yq, add1 (show o.length < 9223372036854775807 by omega), idxS Xy Xr hs', storeBI (xT T F) Yq (show s < T.length by omega), setT]
      refine hN10 [(2, .slice none 0 0), (3, .int .i64 0), (4, .pointer (some ⟨gl, 0, none⟩)), (6, r), (7, .slice (some ⟨n1, 0, none⟩) N N), (8, .slice (some ⟨n1 + 1, 0, none⟩) N N), (9, Yb (s : Nat))] _ _ ?_ (by simp (maxSteps := 2000000) only [↓Za, ↓Zj, ↓Zr, ↓Ze, ↓Zl, ↓Zs, ↓Zf, ↓Zm, ↓Zg, ↓Zb, ↓Zc, ↓vdn, vup, Zk, Zo, Zn, Zi, Zh, List.map_cons, List.map_nil, cond_true, cond_false, aop, Zv, Zq, Zp, ev, sput, Zt, Zy, Ya, unK, Zd, Zw, Nat.reduceBEq, Nat.reduceAdd, Int.reduceBEq, Int.reduceBNe, Int.reduceLT, Zu, Zz, tup, tyf])
      clear hN10
      try clear N10
      generalize T.set s ((o.length + 1 : Nat) : Int) = T1 at hT1 hx1
      clear hT hTl
      refine Yc fun N11 hN11 => ?_
      simp (maxSteps := 2000000) only [s57, ↓Za, ↓Zj, ↓Zr, ↓Ze, ↓Zl, ↓Zs, ↓Zf, ↓Zm, ↓Zg, ↓Zb, ↓Zc, ↓vdn, vup, Zk, Zo, Zn, Zi, Zh, List.map_cons, List.map_nil, cond_true, cond_false, aop, Zv, Zq, Zp, ev, sput, Zt, Zy, Ya, unK, Zd, Zw, Nat.reduceBEq, Nat.reduceAdd, Int.reduceBEq, Int.reduceBNe, Int.reduceLT, Zu, Zz, tup, tyf, (hrX T1 F).len, hChl]
      refine hN11 [(2, .slice none 0 0), (3, .int .i64 0), (4, .pointer (some ⟨gl, 0, none⟩)), (6, r), (7, .slice (some ⟨n1, 0, none⟩) N N), (8, .slice (some ⟨n1 + 1, 0, none⟩) N N), (9, Yb (s : Nat)), (44, r), (45, Yb (chnL o).length), (46, .int .i64 0)] _ _ ?_ (by simp (maxSteps := 2000000) only [↓Za, ↓Zj, ↓Zr, ↓Ze, ↓Zl, ↓Zs, ↓Zf, ↓Zm, ↓Zg, ↓Zb, ↓Zc, ↓vdn, vup, Zk, Zo, Zn, Zi, Zh, List.map_cons, List.map_nil, cond_true, cond_false, aop, Zv, Zq, Zp, ev, sput, Zt, Zy, Ya, unK, Zd, Zw, Nat.reduceBEq, Nat.reduceAdd, Int.reduceBEq, Int.reduceBNe, Int.reduceLT, Zu, Zz, tup, tyf])
      clear hN11
      try clear N11
      refine Yp ?_
      refine Yo fun Qa hQa => ?_
      refine Wm (γ := Nat × List Int × List Int × Nat) (fun q => q.1 ≤ (chnL o).length ∧ TabI o q.2.1 s ∧ FstI o q.2.2.1 s ∧ q.2.1.getD s 0 = (q.2.2.2 : Nat) ∧ q.2.2.2 ≤ 7 ∧ BstI o s (fun c => ∃ i, i < q.1 ∧ (chnL o).getD i 0 = c) q.2.2.2 ∧ (q.2.2.2 = o.length + 1 ∨ ∃ c : Nat, q.2.2.1.getD s 0 = (c : Nat) ∧ okC o s c ∧ q.2.2.2 = 1 + fw o (Xi s c)))
        (fun q => ([(2, .slice none 0 0), (3, .int .i64 0), (4, .pointer (some ⟨gl, 0, none⟩)), (6, r), (7, .slice (some ⟨n1, 0, none⟩) N N), (8, .slice (some ⟨n1 + 1, 0, none⟩) N N), (9, Yb (s : Nat)), (44, r), (45, Yb (chnL o).length), (46, Yb (q.1 : Nat))], X q.2.1 q.2.2.1)) (fun q => (chnL o).length - q.1) (0, T1, F, o.length + 1) ⟨Nat.zero_le _, hT1, hF, hx1, by show o.length + 1 ≤ 7; omega, ⟨by have := fw_le (o := o) hs2; show fw o s ≤ o.length + 1; omega, fun c hc _ => by obtain ⟨i, hi, _⟩ := hc; exact absurd hi (Nat.not_lt_zero i)⟩, .inl rfl⟩ (by simp (maxSteps := 2000000) only [↓Za, ↓Zj, ↓Zr, ↓Ze, ↓Zl, ↓Zs, ↓Zf, ↓Zm, ↓Zg, ↓Zb, ↓Zc, ↓vdn, vup, Zk, Zo, Zn, Zi, Zh, List.map_cons, List.map_nil, cond_true, cond_false, aop, Zv, Zq, Zp, ev, sput, Zt, Zy, Ya, unK, Zd, Zw, Nat.reduceBEq, Nat.reduceAdd, Int.reduceBEq, Int.reduceBNe, Int.reduceLT, Zu, Zz, tup, tyf, Int.natCast_zero]) rfl ?_
      rintro ⟨j, T, F, x⟩ ⟨hj, hT, hF, hx, hx7, hbst, hfst⟩
      simp only at hj hT hF hx hx7 hbst hfst
      refine Yo fun Qb hQb => ?_
      simp only [l57_0]
      have hTl : T.length = N := by rw [hT.len, hN]
      have hFl : F.length = N := by rw [hF.1, hN]
      by_cases hjin : (j : Int) < (chnL o).length
      · have hj' : j < (chnL o).length := by omega
        have hj2 : j < (iL (chnL o)).length := by omega
        obtain ⟨c, hc⟩ : ∃ c, (chnL o).getD j 0 = c := ⟨_, rfl⟩
        have hcm : c ∈ chnL o := hc ▸ getD_memN hj'
        obtain ⟨hc1, hc2, hc3⟩ := mem_chnL.1 hcm
        refine Yc fun N12 hN12 => ?_
        simp (maxSteps := 2000000) only [s57, ↓Za, ↓Zj, ↓Zr, ↓Ze, ↓Zl, ↓Zs, ↓Zf, ↓Zm, ↓Zg, ↓Zb, ↓Zc, ↓vdn, vup, Zk, Zo, Zn, Zi, Zh, List.map_cons, List.map_nil, cond_true, cond_false, aop, Zv, Zq, Zp, ev, sput, Zt, Zy, Ya, unK, Zd, Zw, Nat.reduceBEq, Nat.reduceAdd, Int.reduceBEq, Int.reduceBNe, Int.reduceLT, Zu, Zz, tup, tyf, hjin]
        refine hN12 [(2, .slice none 0 0), (3, .int .i64 0), (4, .pointer (some ⟨gl, 0, none⟩)), (6, r), (7, .slice (some ⟨n1, 0, none⟩) N N), (8, .slice (some ⟨n1 + 1, 0, none⟩) N N), (9, Yb (s : Nat)), (44, r), (45, Yb (chnL o).length), (46, Yb (j : Nat)), (47, .bool true)] _ _ ?_ (by simp (maxSteps := 2000000) only [↓Za, ↓Zj, ↓Zr, ↓Ze, ↓Zl, ↓Zs, ↓Zf, ↓Zm, ↓Zg, ↓Zb, ↓Zc, ↓vdn, vup, Zk, Zo, Zn, Zi, Zh, List.map_cons, List.map_nil, cond_true, cond_false, aop, Zv, Zq, Zp, ev, sput, Zt, Zy, Ya, unK, Zd, Zw, Nat.reduceBEq, Nat.reduceAdd, Int.reduceBEq, Int.reduceBNe, Int.reduceLT, Zu, Zz, tup, tyf])
        clear hN12
        try clear N12
        refine Yc fun N13 hN13 => ?_
        simp (maxSteps := 2000000) only [s57, ↓Za, ↓Zj, ↓Zr, ↓Ze, ↓Zl, ↓Zs, ↓Zf, ↓Zm, ↓Zg, ↓Zb, ↓Zc, ↓vdn, vup, Zk, Zo, Zn, Zi, Zh, List.map_cons, List.map_nil, cond_true, cond_false, aop, Zv, Zq, Zp, ev, sput, Zt, Zy, Ya, unK, Zd, Zw, Nat.reduceBEq, Nat.reduceAdd, Int.reduceBEq, Int.reduceBNe, Int.reduceLT, Zu, Zz, tup, tyf]
        refine hN13 [(2, .slice none 0 0), (3, .int .i64 0), (4, .pointer (some ⟨gl, 0, none⟩)), (6, r), (7, .slice (some ⟨n1, 0, none⟩) N N), (8, .slice (some ⟨n1 + 1, 0, none⟩) N N), (9, Yb (s : Nat)), (44, r), (45, Yb (chnL o).length), (46, Yb (j : Nat))] _ _ ?_ (by simp (maxSteps := 2000000) only [↓Za, ↓Zj, ↓Zr, ↓Ze, ↓Zl, ↓Zs, ↓Zf, ↓Zm, ↓Zg, ↓Zb, ↓Zc, ↓vdn, vup, Zk, Zo, Zn, Zi, Zh, List.map_cons, List.map_nil, cond_true, cond_false, aop, Zv, Zq, Zp, ev, sput, Zt, Zy, Ya, unK, Zd, Zw, Nat.reduceBEq, Nat.reduceAdd, Int.reduceBEq, Int.reduceBNe, Int.reduceLT, Zu, Zz, tup, tyf])
        clear hN13
        try clear N13
        refine Yu fun D hD => ?_
        refine Yp ?_
        refine Yc fun N14 hN14 => ?_
        simp (maxSteps := 2000000) only [s57, ↓Za, ↓Zj, ↓Zr, ↓Ze, ↓Zl, ↓Zs, ↓Zf, ↓Zm, ↓Zg, ↓Zb, ↓Zc, ↓vdn, vup, Zk, Zo, Zn, Zi, Zh, List.map_cons, List.map_nil, cond_true, cond_false, aop, Zv, Zq, Zp, ev, sput, Zt, Zy, Ya, unK, Zd, Zw, Nat.reduceBEq, Nat.reduceAdd, Int.reduceBEq, Int.reduceBNe, Int.reduceLT, Zu, Zz, tup, tyf, (hrX T F).idx Xy Xr hj2, (hrX T F).load Yq hj2, iL_get, hc]
        refine hN14 [(2, .slice none 0 0), (3, .int .i64 0), (4, .pointer (some ⟨gl, 0, none⟩)), (6, r), (7, .slice (some ⟨n1, 0, none⟩) N N), (8, .slice (some ⟨n1 + 1, 0, none⟩) N N), (9, Yb (s : Nat)), (11, Yb (c : Nat)), (44, r), (45, Yb (chnL o).length), (46, Yb (j : Nat))] _ _ ?_ (by simp (maxSteps := 2000000) only [↓Za, ↓Zj, ↓Zr, ↓Ze, ↓Zl, ↓Zs, ↓Zf, ↓Zm, ↓Zg, ↓Zb, ↓Zc, ↓vdn, vup, Zk, Zo, Zn, Zi, Zh, List.map_cons, List.map_nil, cond_true, cond_false, aop, Zv, Zq, Zp, ev, sput, Zt, Zy, Ya, unK, Zd, Zw, Nat.reduceBEq, Nat.reduceAdd, Int.reduceBEq, Int.reduceBNe, Int.reduceLT, Zu, Zz, tup, tyf])
        clear hN14
        try clear N14
        have goOn : ∀ (T' F' : List Int) (x' : Nat), TabI o T' s → FstI o F' s → T'.getD s 0 = (x' : Nat) → x' ≤ 7 → BstI o s (fun c => ∃ i, i < j + 1 ∧ (chnL o).getD i 0 = c) x' → (x' = o.length + 1 ∨ ∃ c : Nat, F'.getD s 0 = (c : Nat) ∧ okC o s c ∧ x' = 1 + fw o (Xi s c)) → ∀ e, ELe e [(2, .slice none 0 0), (3, .int .i64 0), (4, .pointer (some ⟨gl, 0, none⟩)), (6, r), (7, .slice (some ⟨n1, 0, none⟩) N N), (8, .slice (some ⟨n1 + 1, 0, none⟩) N N), (9, Yb (s : Nat)), (44, r), (45, Yb (chnL o).length), (46, Yb (j : Nat))] → D e (X T' F') := by
          intro T' F' x' g1 g2 g3 g4 g5 g6 e he
          refine hD _ _ _ ?_ he
          refine Yj ?_
          simp (maxSteps := 2000000) only [s57, ↓Za, ↓Zj, ↓Zr, ↓Ze, ↓Zl, ↓Zs, ↓Zf, ↓Zm, ↓Zg, ↓Zb, ↓Zc, ↓vdn, vup, Zk, Zo, Zn, Zi, Zh, List.map_cons, List.map_nil, cond_true, cond_false, aop, Zv, Zq, Zp, ev, sput, Zt, Zy, Ya, unK, Zd, Zw, Nat.reduceBEq, Nat.reduceAdd, Int.reduceBEq, Int.reduceBNe, Int.reduceLT, Zu, Zz, tup, tyf, add1 (show j < 9223372036854775807 by omega)]
          exact hQb _ _ _ ⟨(j + 1, T', F', x'), ⟨hj', g1, g2, g3, g4, g5, g6⟩, by simp only; omega, by simp (maxSteps := 2000000) only [↓Za, ↓Zj, ↓Zr, ↓Ze, ↓Zl, ↓Zs, ↓Zf, ↓Zm, ↓Zg, ↓Zb, ↓Zc, ↓vdn, vup, Zk, Zo, Zn, Zi, Zh, List.map_cons, List.map_nil, cond_true, cond_false, aop, Zv, Zq, Zp, ev, sput, Zt, Zy, Ya, unK, Zd, Zw, Nat.reduceBEq, Nat.reduceAdd, Int.reduceBEq, Int.reduceBNe, Int.reduceLT, Zu, Zz, tup, tyf], rfl⟩
        have noC : (okC o s c → x ≤ 1 + fw o (Xi s c)) → BstI o s (fun c => ∃ i, i < j + 1 ∧ (chnL o).getD i 0 = c) x := fun hno => ⟨hbst.ge, fun d hd hk => by
          obtain ⟨i, hi, hdi⟩ := hd
          by_cases he : i = j
          · rw [he, hc] at hdi; subst hdi; exact hno hk
          · exact hbst.le d ⟨i, by omega, hdi⟩ hk⟩
        have han := andNot_eq (a := c) (b := s) (by omega) (by omega)
        have han2 := andNot_eq (a := s) (b := c) (by omega) (by omega)
        refine Yc fun N15 hN15 => ?_
        simp only [q57_14]
        refine Xx [] (by kernel_rfl) (by kernel_rfl) (by kernel_rfl) (by kernel_rfl) ?_
        by_cases hz : Xi c s = 0
        · have hz' : (((Xi c s : Nat) : Int) == 0) = true := by rw [hz]; rfl
          have hok : okC o s c := ⟨hc2, hz, hc3⟩
          obtain ⟨y, hy⟩ : ∃ y, y = fw o (Xi s c) := ⟨_, rfl⟩
          have hlt := less_lt hok.1 hok.2.1
          have hgy : T.getD (Xi s c) 0 = (y : Nat) := by rw [hT.get _ hlt, hy]
          have hy6 : y ≤ 6 := by rw [hy]; exact fw_le6 ho (by omega)
          have hadd1 : addV .i64 1 ((y : Nat) : Int) = ((1 + y : Nat) : Int) := by
            rw [addV_id (by omega) (by omega)]; omega
          by_cases hlt2 : 1 + y < x
          · have hlt2' : ((1 + y : Nat) : Int) < ((x : Nat) : Int) := by omega
            simp (maxSteps := 2000000) only [s57, ↓Za, ↓Zj, ↓Zr, ↓Ze, ↓Zl, ↓Zs, ↓Zf, ↓Zm, ↓Zg, ↓Zb, ↓Zc, ↓vdn, vup, Zk, Zo, Zn, Zi, Zh, List.map_cons, List.map_nil, cond_true, cond_false, aop, Zv, Zq, Zp, ev, sput, Zt, Zy, Ya, unK, Zd, Zw, Nat.reduceBEq, Nat.reduceAdd, Int.reduceBEq, Int.reduceBNe, Int.reduceLT, Zu, Zz, tup, tyf, han, hz', han2, idxS Xy Xr (show Xi s c < N by omega), loadX (xT T F) Yq (show Xi s c < T.length by omega), hgy, hadd1, idxS Xy Xr hs', loadX (xT T F) Yq (show s < T.length by omega), hx, decide_eq_true hlt2']
            refine hN15 [(2, .slice none 0 0), (3, .int .i64 0), (4, .pointer (some ⟨gl, 0, none⟩)), (6, r), (7, .slice (some ⟨n1, 0, none⟩) N N), (8, .slice (some ⟨n1 + 1, 0, none⟩) N N), (9, Yb (s : Nat)), (11, Yb (c : Nat)), (44, r), (45, Yb (chnL o).length), (46, Yb (j : Nat)), (67, .bool true)] _ _ ?_ (by simp (maxSteps := 2000000) only [↓Za, ↓Zj, ↓Zr, ↓Ze, ↓Zl, ↓Zs, ↓Zf, ↓Zm, ↓Zg, ↓Zb, ↓Zc, ↓vdn, vup, Zk, Zo, Zn, Zi, Zh, List.map_cons, List.map_nil, cond_true, cond_false, aop, Zv, Zq, Zp, ev, sput, Zt, Zy, Ya, unK, Zd, Zw, Nat.reduceBEq, Nat.reduceAdd, Int.reduceBEq, Int.reduceBNe, Int.reduceLT, Zu, Zz, tup, tyf])
            clear hN15
            try clear N15
            refine Ws rfl ?_
            obtain ⟨hT2, hx2⟩ := hT.put hs2 ((1 + y : Nat) : Int)
            have hF2 : FstI o (F.set s ((c : Nat) : Int)) s := ⟨by rw [List.length_set, hF.1], fun t h0 ht => by rw [getD_setI (by omega), if_neg (by omega)]; exact hF.2 t h0 ht⟩
            have hfx : (F.set s ((c : Nat) : Int)).getD s 0 = (c : Nat) := by rw [getD_setI (by omega), if_pos rfl]
            refine Yj ?_
            simp (maxSteps := 2000000) only [s57, ↓Za, ↓Zj, ↓Zr, ↓Ze, ↓Zl, ↓Zs, ↓Zf, ↓Zm, ↓Zg, ↓Zb, ↓Zc, ↓vdn, vup, Zk, Zo, Zn, Zi, Zh, List.map_cons, List.map_nil, cond_true, cond_false, aop, Zv, Zq, Zp, ev, sput, Zt, Zy, Ya, unK, Zd, Zw, Nat.reduceBEq, Nat.reduceAdd, Int.reduceBEq, Int.reduceBNe, Int.reduceLT, Zu, Zz, tup, tyf, han2, idxS Xy Xr (show Xi s c < N by omega), loadX (xT T F) Yq (show Xi s c < T.length by omega), hgy, hadd1, idxS Xy Xr hs', storeBI (xT T F) Yq (show s < T.length by omega), setT, storeBI (xF _ F) Yq (show s < F.length by omega), setF]
            refine goOn _ _ (1 + y) hT2 hF2 hx2 (by omega) ⟨?_, fun d hd hk => ?_⟩ (.inr ⟨c, hfx, hok, by rw [hy]⟩) _ (by simp (maxSteps := 2000000) only [↓Za, ↓Zj, ↓Zr, ↓Ze, ↓Zl, ↓Zs, ↓Zf, ↓Zm, ↓Zg, ↓Zb, ↓Zc, ↓vdn, vup, Zk, Zo, Zn, Zi, Zh, List.map_cons, List.map_nil, cond_true, cond_false, aop, Zv, Zq, Zp, ev, sput, Zt, Zy, Ya, unK, Zd, Zw, Nat.reduceBEq, Nat.reduceAdd, Int.reduceBEq, Int.reduceBNe, Int.reduceLT, Zu, Zz, tup, tyf])
            · have := fw_le_one hok; omega
            · obtain ⟨i, hi, hdi⟩ := hd
              by_cases he : i = j
              · rw [he, hc] at hdi; subst hdi; omega
              · have := hbst.le d ⟨i, by omega, hdi⟩ hk; omega
          · have hlt2' : ¬ ((1 + y : Nat) : Int) < ((x : Nat) : Int) := by omega
            simp (maxSteps := 2000000) only [s57, ↓Za, ↓Zj, ↓Zr, ↓Ze, ↓Zl, ↓Zs, ↓Zf, ↓Zm, ↓Zg, ↓Zb, ↓Zc, ↓vdn, vup, Zk, Zo, Zn, Zi, Zh, List.map_cons, List.map_nil, cond_true, cond_false, aop, Zv, Zq, Zp, ev, sput, Zt, Zy, Ya, unK, Zd, Zw, Nat.reduceBEq, Nat.reduceAdd, Int.reduceBEq, Int.reduceBNe, Int.reduceLT, Zu, Zz, tup, tyf, han, hz', han2, idxS Xy Xr (show Xi s c < N by omega), loadX (xT T F) Yq (show Xi s c < T.length by omega), hgy, hadd1, idxS Xy Xr hs', loadX (xT T F) Yq (show s < T.length by omega), hx, decide_eq_false hlt2']
            refine hN15 [(2, .slice none 0 0), (3, .int .i64 0), (4, .pointer (some ⟨gl, 0, none⟩)), (6, r), (7, .slice (some ⟨n1, 0, none⟩) N N), (8, .slice (some ⟨n1 + 1, 0, none⟩) N N), (9, Yb (s : Nat)), (11, Yb (c : Nat)), (44, r), (45, Yb (chnL o).length), (46, Yb (j : Nat)), (67, .bool false)] _ _ ?_ (by simp (maxSteps := 2000000) only [↓Za, ↓Zj, ↓Zr, ↓Ze, ↓Zl, ↓Zs, ↓Zf, ↓Zm, ↓Zg, ↓Zb, ↓Zc, ↓vdn, vup, Zk, Zo, Zn, Zi, Zh, List.map_cons, List.map_nil, cond_true, cond_false, aop, Zv, Zq, Zp, ev, sput, Zt, Zy, Ya, unK, Zd, Zw, Nat.reduceBEq, Nat.reduceAdd, Int.reduceBEq, Int.reduceBNe, Int.reduceLT, Zu, Zz, tup, tyf])
            clear hN15
            try clear N15
            refine Xf rfl ?_
            refine Yj ?_
            simp (maxSteps := 2000000) only [s57, ↓Za, ↓Zj, ↓Zr, ↓Ze, ↓Zl, ↓Zs, ↓Zf, ↓Zm, ↓Zg, ↓Zb, ↓Zc, ↓vdn, vup, Zk, Zo, Zn, Zi, Zh, List.map_cons, List.map_nil, cond_true, cond_false, aop, Zv, Zq, Zp, ev, sput, Zt, Zy, Ya, unK, Zd, Zw, Nat.reduceBEq, Nat.reduceAdd, Int.reduceBEq, Int.reduceBNe, Int.reduceLT, Zu, Zz, tup, tyf]
            exact goOn T F x hT hF hx hx7 (noC fun _ => by omega) hfst _ (by simp (maxSteps := 2000000) only [↓Za, ↓Zj, ↓Zr, ↓Ze, ↓Zl, ↓Zs, ↓Zf, ↓Zm, ↓Zg, ↓Zb, ↓Zc, ↓vdn, vup, Zk, Zo, Zn, Zi, Zh, List.map_cons, List.map_nil, cond_true, cond_false, aop, Zv, Zq, Zp, ev, sput, Zt, Zy, Ya, unK, Zd, Zw, Nat.reduceBEq, Nat.reduceAdd, Int.reduceBEq, Int.reduceBNe, Int.reduceLT, Zu, Zz, tup, tyf])
        · have hz' : (((Xi c s : Nat) : Int) == 0) = false := by
            rw [beq_eq_false_iff_ne]; omega
          simp (maxSteps := 2000000) only [s57, ↓Za, ↓Zj, ↓Zr, ↓Ze, ↓Zl, ↓Zs, ↓Zf, ↓Zm, ↓Zg, ↓Zb, ↓Zc, ↓vdn, vup, Zk, Zo, Zn, Zi, Zh, List.map_cons, List.map_nil, cond_true, cond_false, aop, Zv, Zq, Zp, ev, sput, Zt, Zy, Ya, unK, Zd, Zw, Nat.reduceBEq, Nat.reduceAdd, Int.reduceBEq, Int.reduceBNe, Int.reduceLT, Zu, Zz, tup, tyf, han, hz']
          refine hN15 [(2, .slice none 0 0), (3, .int .i64 0), (4, .pointer (some ⟨gl, 0, none⟩)), (6, r), (7, .slice (some ⟨n1, 0, none⟩) N N), (8, .slice (some ⟨n1 + 1, 0, none⟩) N N), (9, Yb (s : Nat)), (11, Yb (c : Nat)), (44, r), (45, Yb (chnL o).length), (46, Yb (j : Nat)), (67, .bool false)] _ _ ?_ (by simp (maxSteps := 2000000) only [↓Za, ↓Zj, ↓Zr, ↓Ze, ↓Zl, ↓Zs, ↓Zf, ↓Zm, ↓Zg, ↓Zb, ↓Zc, ↓vdn, vup, Zk, Zo, Zn, Zi, Zh, List.map_cons, List.map_nil, cond_true, cond_false, aop, Zv, Zq, Zp, ev, sput, Zt, Zy, Ya, unK, Zd, Zw, Nat.reduceBEq, Nat.reduceAdd, Int.reduceBEq, Int.reduceBNe, Int.reduceLT, Zu, Zz, tup, tyf])
          clear hN15
          try clear N15
          refine Xf rfl ?_
          refine Yj ?_
          simp (maxSteps := 2000000) only [s57, ↓Za, ↓Zj, ↓Zr, ↓Ze, ↓Zl, ↓Zs, ↓Zf, ↓Zm, ↓Zg, ↓Zb, ↓Zc, ↓vdn, vup, Zk, Zo, Zn, Zi, Zh, List.map_cons, List.map_nil, cond_true, cond_false, aop, Zv, Zq, Zp, ev, sput, Zt, Zy, Ya, unK, Zd, Zw, Nat.reduceBEq, Nat.reduceAdd, Int.reduceBEq, Int.reduceBNe, Int.reduceLT, Zu, Zz, tup, tyf]
          exact goOn T F x hT hF hx hx7 (noC fun hk => absurd hk.2.1 hz) hfst _ (by simp (maxSteps := 2000000) only [↓Za, ↓Zj, ↓Zr, ↓Ze, ↓Zl, ↓Zs, ↓Zf, ↓Zm, ↓Zg, ↓Zb, ↓Zc, ↓vdn, vup, Zk, Zo, Zn, Zi, Zh, List.map_cons, List.map_nil, cond_true, cond_false, aop, Zv, Zq, Zp, ev, sput, Zt, Zy, Ya, unK, Zd, Zw, Nat.reduceBEq, Nat.reduceAdd, Int.reduceBEq, Int.reduceBNe, Int.reduceLT, Zu, Zz, tup, tyf])
      · obtain rfl : j = (chnL o).length := by omega
        have hxf := hbst.fin (by omega) fun d hd => by
          have hds := sub_leN hd.2.1
          obtain ⟨i, hi, he⟩ := List.mem_iff_getElem.1 (mem_chnL.2 ⟨by omega, hd.1, hd.2.2⟩)
          exact ⟨i, hi, by rw [List.getD, List.getElem?_eq_getElem hi, he]; rfl⟩
        subst hxf
        have hfl := fw_le (o := o) hs2
        have hF2 : FstI o F (s + 1) := ⟨hF.1, fun t h0 ht => by
          by_cases he : t = s
          · subst he
            rcases hfst with h1 | h1
            · omega
            · exact h1
          · exact hF.2 t h0 (by omega)⟩
        refine Yc fun N16 hN16 => ?_
        simp (maxSteps := 2000000) only [s57, ↓Za, ↓Zj, ↓Zr, ↓Ze, ↓Zl, ↓Zs, ↓Zf, ↓Zm, ↓Zg, ↓Zb, ↓Zc, ↓vdn, vup, Zk, Zo, Zn, Zi, Zh, List.map_cons, List.map_nil, cond_true, cond_false, aop, Zv, Zq, Zp, ev, sput, Zt, Zy, Ya, unK, Zd, Zw, Nat.reduceBEq, Nat.reduceAdd, Int.reduceBEq, Int.reduceBNe, Int.reduceLT, Zu, Zz, tup, tyf, hjin]
        refine hN16 [(2, .slice none 0 0), (3, .int .i64 0), (4, .pointer (some ⟨gl, 0, none⟩)), (6, r), (7, .slice (some ⟨n1, 0, none⟩) N N), (8, .slice (some ⟨n1 + 1, 0, none⟩) N N), (9, Yb (s : Nat)), (44, r), (45, Yb (chnL o).length), (46, Yb (chnL o).length), (47, .bool false)] _ _ ?_ (by simp (maxSteps := 2000000) only [↓Za, ↓Zj, ↓Zr, ↓Ze, ↓Zl, ↓Zs, ↓Zf, ↓Zm, ↓Zg, ↓Zb, ↓Zc, ↓vdn, vup, Zk, Zo, Zn, Zi, Zh, List.map_cons, List.map_nil, cond_true, cond_false, aop, Zv, Zq, Zp, ev, sput, Zt, Zy, Ya, unK, Zd, Zw, Nat.reduceBEq, Nat.reduceAdd, Int.reduceBEq, Int.reduceBNe, Int.reduceLT, Zu, Zz, tup, tyf])
        clear hN16
        try clear N16
        refine Yc fun N17 hN17 => ?_
        simp (maxSteps := 2000000) only [s57, ↓Za, ↓Zj, ↓Zr, ↓Ze, ↓Zl, ↓Zs, ↓Zf, ↓Zm, ↓Zg, ↓Zb, ↓Zc, ↓vdn, vup, Zk, Zo, Zn, Zi, Zh, List.map_cons, List.map_nil, cond_true, cond_false, aop, Zv, Zq, Zp, ev, sput, Zt, Zy, Ya, unK, Zd, Zw, Nat.reduceBEq, Nat.reduceAdd, Int.reduceBEq, Int.reduceBNe, Int.reduceLT, Zu, Zz, tup, tyf]
        refine hQb _ _ _ (hQa _ _ _ ?_)
        simp (maxSteps := 2000000) only [s57, ↓Za, ↓Zj, ↓Zr, ↓Ze, ↓Zl, ↓Zs, ↓Zf, ↓Zm, ↓Zg, ↓Zb, ↓Zc, ↓vdn, vup, Zk, Zo, Zn, Zi, Zh, List.map_cons, List.map_nil, cond_true, cond_false, aop, Zv, Zq, Zp, ev, sput, Zt, Zy, Ya, unK, Zd, Zw, Nat.reduceBEq, Nat.reduceAdd, Int.reduceBEq, Int.reduceBNe, Int.reduceLT, Zu, Zz, tup, tyf, if_true]
        refine hB [(2, .slice none 0 0), (3, .int .i64 0), (4, .pointer (some ⟨gl, 0, none⟩)), (6, r), (7, .slice (some ⟨n1, 0, none⟩) N N), (8, .slice (some ⟨n1 + 1, 0, none⟩) N N), (9, Yb (s : Nat))] _ _ ?_ (by simp (maxSteps := 2000000) only [↓Za, ↓Zj, ↓Zr, ↓Ze, ↓Zl, ↓Zs, ↓Zf, ↓Zm, ↓Zg, ↓Zb, ↓Zc, ↓vdn, vup, Zk, Zo, Zn, Zi, Zh, List.map_cons, List.map_nil, cond_true, cond_false, aop, Zv, Zq, Zp, ev, sput, Zt, Zy, Ya, unK, Zd, Zw, Nat.reduceBEq, Nat.reduceAdd, Int.reduceBEq, Int.reduceBNe, Int.reduceLT, Zu, Zz, tup, tyf])
        clear hB
        try clear B
        refine Yj ?_
        simp (maxSteps := 2000000) only [s57, ↓Za, ↓Zj, ↓Zr, ↓Ze, ↓Zl, ↓Zs, ↓Zf, ↓Zm, ↓Zg, ↓Zb, ↓Zc, ↓vdn, vup, Zk, Zo, Zn, Zi, Zh, List.map_cons, List.map_nil, cond_true, cond_false, aop, Zv, Zq, Zp, ev, sput, Zt, Zy, Ya, unK, Zd, Zw, Nat.reduceBEq, Nat.reduceAdd, Int.reduceBEq, Int.reduceBNe, Int.reduceLT, Zu, Zz, tup, tyf, add1 (show s < 9223372036854775807 by omega)]
        exact hQ2 _ _ _ ⟨(s + 1, T, F), ⟨by simp only; omega, hs', hT.next hx, hF2⟩, by simp only; omega, by simp (maxSteps := 2000000) only [↓Za, ↓Zj, ↓Zr, ↓Ze, ↓Zl, ↓Zs, ↓Zf, ↓Zm, ↓Zg, ↓Zb, ↓Zc, ↓vdn, vup, Zk, Zo, Zn, Zi, Zh, List.map_cons, List.map_nil, cond_true, cond_false, aop, Zv, Zq, Zp, ev, sput, Zt, Zy, Ya, unK, Zd, Zw, Nat.reduceBEq, Nat.reduceAdd, Int.reduceBEq, Int.reduceBNe, Int.reduceLT, Zu, Zz, tup, tyf], rfl⟩
    · obtain rfl : N = s := by omega
      simp (maxSteps := 2000000) only [s57, ↓Za, ↓Zj, ↓Zr, ↓Ze, ↓Zl, ↓Zs, ↓Zf, ↓Zm, ↓Zg, ↓Zb, ↓Zc, ↓vdn, vup, Zk, Zo, Zn, Zi, Zh, List.map_cons, List.map_nil, cond_true, cond_false, aop, Zv, Zq, Zp, ev, sput, Zt, Zy, Ya, unK, Zd, Zw, Nat.reduceBEq, Nat.reduceAdd, Int.reduceBEq, Int.reduceBNe, Int.reduceLT, Zu, Zz, tup, tyf, hin]
      refine hN9 [(2, .slice none 0 0), (3, .int .i64 0), (4, .pointer (some ⟨gl, 0, none⟩)), (6, r), (7, .slice (some ⟨n1, 0, none⟩) N N), (8, .slice (some ⟨n1 + 1, 0, none⟩) N N), (9, Yb (N : Nat)), (35, .bool false)] _ _ ?_ (by simp (maxSteps := 2000000) only [↓Za, ↓Zj, ↓Zr, ↓Ze, ↓Zl, ↓Zs, ↓Zf, ↓Zm, ↓Zg, ↓Zb, ↓Zc, ↓vdn, vup, Zk, Zo, Zn, Zi, Zh, List.map_cons, List.map_nil, cond_true, cond_false, aop, Zv, Zq, Zp, ev, sput, Zt, Zy, Ya, unK, Zd, Zw, Nat.reduceBEq, Nat.reduceAdd, Int.reduceBEq, Int.reduceBNe, Int.reduceLT, Zu, Zz, tup, tyf])
      clear hN9
      try clear N9
      refine Xf rfl ?_
      refine Yj ?_
      simp (maxSteps := 2000000) only [s57, ↓Za, ↓Zj, ↓Zr, ↓Ze, ↓Zl, ↓Zs, ↓Zf, ↓Zm, ↓Zg, ↓Zb, ↓Zc, ↓vdn, vup, Zk, Zo, Zn, Zi, Zh, List.map_cons, List.map_nil, cond_true, cond_false, aop, Zv, Zq, Zp, ev, sput, Zt, Zy, Ya, unK, Zd, Zw, Nat.reduceBEq, Nat.reduceAdd, Int.reduceBEq, Int.reduceBNe, Int.reduceLT, Zu, Zz, tup, tyf]
      refine hQ2 _ _ _ (hQ _ _ _ ?_)
      simp (maxSteps := 2000000) only [s57, ↓Za, ↓Zj, ↓Zr, ↓Ze, ↓Zl, ↓Zs, ↓Zf, ↓Zm, ↓Zg, ↓Zb, ↓Zc, ↓vdn, vup, Zk, Zo, Zn, Zi, Zh, List.map_cons, List.map_nil, cond_true, cond_false, aop, Zv, Zq, Zp, ev, sput, Zt, Zy, Ya, unK, Zd, Zw, Nat.reduceBEq, Nat.reduceAdd, Int.reduceBEq, Int.reduceBNe, Int.reduceLT, Zu, Zz, tup, tyf, if_true]
      refine hZ [(2, .slice none 0 0), (3, .int .i64 0), (4, .pointer (some ⟨gl, 0, none⟩)), (6, r), (7, .slice (some ⟨n1, 0, none⟩) N N), (8, .slice (some ⟨n1 + 1, 0, none⟩) N N)] _ _ ?_ (by simp (maxSteps := 2000000) only [↓Za, ↓Zj, ↓Zr, ↓Ze, ↓Zl, ↓Zs, ↓Zf, ↓Zm, ↓Zg, ↓Zb, ↓Zc, ↓vdn, vup, Zk, Zo, Zn, Zi, Zh, List.map_cons, List.map_nil, cond_true, cond_false, aop, Zv, Zq, Zp, ev, sput, Zt, Zy, Ya, unK, Zd, Zw, Nat.reduceBEq, Nat.reduceAdd, Int.reduceBEq, Int.reduceBNe, Int.reduceLT, Zu, Zz, tup, tyf])
      clear hZ
      try clear Z
      clear hQ hQ2
      have hFl : F.length = N := by rw [hF.1, hN]
      refine Yc fun N18 hN18 => ?_
      simp (maxSteps := 2000000) only [s57, ↓Za, ↓Zj, ↓Zr, ↓Ze, ↓Zl, ↓Zs, ↓Zf, ↓Zm, ↓Zg, ↓Zb, ↓Zc, ↓vdn, vup, Zk, Zo, Zn, Zi, Zh, List.map_cons, List.map_nil, cond_true, cond_false, aop, Zv, Zq, Zp, ev, sput, Zt, Zy, Ya, unK, Zd, Zw, Nat.reduceBEq, Nat.reduceAdd, Int.reduceBEq, Int.reduceBNe, Int.reduceLT, Zu, Zz, tup, tyf]
      refine hN18 [(2, .slice none 0 0), (3, .int .i64 0), (4, .pointer (some ⟨gl, 0, none⟩)), (6, r), (7, .slice (some ⟨n1, 0, none⟩) N N), (8, .slice (some ⟨n1 + 1, 0, none⟩) N N), (12, .slice none 0 0)] _ _ ?_ (by simp (maxSteps := 2000000) only [↓Za, ↓Zj, ↓Zr, ↓Ze, ↓Zl, ↓Zs, ↓Zf, ↓Zm, ↓Zg, ↓Zb, ↓Zc, ↓vdn, vup, Zk, Zo, Zn, Zi, Zh, List.map_cons, List.map_nil, cond_true, cond_false, aop, Zv, Zq, Zp, ev, sput, Zt, Zy, Ya, unK, Zd, Zw, Nat.reduceBEq, Nat.reduceAdd, Int.reduceBEq, Int.reduceBNe, Int.reduceLT, Zu, Zz, tup, tyf])
      clear hN18
      try clear N18
      refine Yu fun Z hZ => ?_
      refine Yc fun N19 hN19 => ?_
      simp (maxSteps := 2000000) only [s57, ↓Za, ↓Zj, ↓Zr, ↓Ze, ↓Zl, ↓Zs, ↓Zf, ↓Zm, ↓Zg, ↓Zb, ↓Zc, ↓vdn, vup, Zk, Zo, Zn, Zi, Zh, List.map_cons, List.map_nil, cond_true, cond_false, aop, Zv, Zq, Zp, ev, sput, Zt, Zy, Ya, unK, Zd, Zw, Nat.reduceBEq, Nat.reduceAdd, Int.reduceBEq, Int.reduceBNe, Int.reduceLT, Zu, Zz, tup, tyf, Yr, List.nil_append, List.append_nil, List.toList_toArray, List.cons_append, loadO (xb T F) Xa hln.2]
      refine (hallc _).mono ?_
      rintro _ _ ⟨rfl, rfl⟩
      refine hN19 [(2, .slice none 0 0), (3, .int .i64 0), (4, .pointer (some ⟨gl, 0, none⟩)), (6, r), (7, .slice (some ⟨n1, 0, none⟩) N N), (8, .slice (some ⟨n1 + 1, 0, none⟩) N N), (12, .slice none 0 0), (13, Yb (N - 1 : Nat))] _ _ ?_ (by simp (maxSteps := 2000000) only [↓Za, ↓Zj, ↓Zr, ↓Ze, ↓Zl, ↓Zs, ↓Zf, ↓Zm, ↓Zg, ↓Zb, ↓Zc, ↓vdn, vup, Zk, Zo, Zn, Zi, Zh, List.map_cons, List.map_nil, cond_true, cond_false, aop, Zv, Zq, Zp, ev, sput, Zt, Zy, Ya, unK, Zd, Zw, Nat.reduceBEq, Nat.reduceAdd, Int.reduceBEq, Int.reduceBNe, Int.reduceLT, Zu, Zz, tup, tyf])
      clear hN19
      try clear N19
      refine Yp ?_
      refine Yo fun Q hQ => ?_
      refine Wm (γ := Nat × List Nat × Value × Zx) (fun q => q.1 < N ∧ OwnSl 3 q.2.2.2 q.2.2.1 (iL q.2.1) ∧ Ext (fun _ => False) (X T F) q.2.2.2 ∧ (∀ b, Yy q.2.2.1 = some b → n1 + 2 ≤ b) ∧ (∀ rest, Part o q.1 rest → Part o (2 ^ o.length - 1) (q.2.1 ++ rest)) ∧ q.2.1.length + fw o q.1 = fw o (2 ^ o.length - 1) ∧ ∀ c ∈ q.2.1, c < N)
        (fun q => ([(2, .slice none 0 0), (3, .int .i64 0), (4, .pointer (some ⟨gl, 0, none⟩)), (6, r), (7, .slice (some ⟨n1, 0, none⟩) N N), (8, .slice (some ⟨n1 + 1, 0, none⟩) N N), (12, q.2.2.1), (13, Yb (q.1 : Nat))], q.2.2.2)) (fun q => q.1) (N - 1, [], .slice none 0 0, X T F) ⟨by omega, .inl ⟨rfl, rfl⟩, Ext.refl _ _, fun b hb => (by cases hb), fun rest hr => (by rw [List.nil_append, ← hN]; exact hr), by simp [hN], fun c hc => by cases hc⟩ (by simp (maxSteps := 2000000) only [↓Za, ↓Zj, ↓Zr, ↓Ze, ↓Zl, ↓Zs, ↓Zf, ↓Zm, ↓Zg, ↓Zb, ↓Zc, ↓vdn, vup, Zk, Zo, Zn, Zi, Zh, List.map_cons, List.map_nil, cond_true, cond_false, aop, Zv, Zq, Zp, ev, sput, Zt, Zy, Ya, unK, Zd, Zw, Nat.reduceBEq, Nat.reduceAdd, Int.reduceBEq, Int.reduceBNe, Int.reduceLT, Zu, Zz, tup, tyf]) rfl ?_
      rintro ⟨t, pre, w, H⟩ ⟨ht, how, hEH, hbw, hpart, hsum, hpreN⟩
      simp only at ht how hEH hbw hpart hsum hpreN
      refine Yo fun Q2 hQ2 => ?_
      simp only [l57_2]
      refine Yu fun C hC => ?_
      have hF8 : H[n1 + 1]? = some (.ints F 3 false) := (hEH.2 _ (Yz (xF T F)) id).trans (xF T F)
      by_cases h0 : t = 0
      · subst h0
        have hz : (((0 : Nat) : Int) != 0) = false := rfl
        refine Yc fun N20 hN20 => ?_
        simp (maxSteps := 2000000) only [s57, ↓Za, ↓Zj, ↓Zr, ↓Ze, ↓Zl, ↓Zs, ↓Zf, ↓Zm, ↓Zg, ↓Zb, ↓Zc, ↓vdn, vup, Zk, Zo, Zn, Zi, Zh, List.map_cons, List.map_nil, cond_true, cond_false, aop, Zv, Zq, Zp, ev, sput, Zt, Zy, Ya, unK, Zd, Zw, Nat.reduceBEq, Nat.reduceAdd, Int.reduceBEq, Int.reduceBNe, Int.reduceLT, Zu, Zz, tup, tyf, hz]
        refine hN20 [(2, .slice none 0 0), (3, .int .i64 0), (4, .pointer (some ⟨gl, 0, none⟩)), (6, r), (7, .slice (some ⟨n1, 0, none⟩) N N), (8, .slice (some ⟨n1 + 1, 0, none⟩) N N), (12, w), (13, Yb (0 : Nat)), (86, .bool false)] _ _ ?_ (by simp (maxSteps := 2000000) only [↓Za, ↓Zj, ↓Zr, ↓Ze, ↓Zl, ↓Zs, ↓Zf, ↓Zm, ↓Zg, ↓Zb, ↓Zc, ↓vdn, vup, Zk, Zo, Zn, Zi, Zh, List.map_cons, List.map_nil, cond_true, cond_false, aop, Zv, Zq, Zp, ev, sput, Zt, Zy, Ya, unK, Zd, Zw, Nat.reduceBEq, Nat.reduceAdd, Int.reduceBEq, Int.reduceBNe, Int.reduceLT, Zu, Zz, tup, tyf])
        clear hN20
        try clear N20
        refine Xf rfl ?_
        refine Yj ?_
        simp (maxSteps := 2000000) only [s57, ↓Za, ↓Zj, ↓Zr, ↓Ze, ↓Zl, ↓Zs, ↓Zf, ↓Zm, ↓Zg, ↓Zb, ↓Zc, ↓vdn, vup, Zk, Zo, Zn, Zi, Zh, List.map_cons, List.map_nil, cond_true, cond_false, aop, Zv, Zq, Zp, ev, sput, Zt, Zy, Ya, unK, Zd, Zw, Nat.reduceBEq, Nat.reduceAdd, Int.reduceBEq, Int.reduceBNe, Int.reduceLT, Zu, Zz, tup, tyf]
        refine hQ2 _ _ _ (hQ _ _ _ ?_)
        simp (maxSteps := 2000000) only [s57, ↓Za, ↓Zj, ↓Zr, ↓Ze, ↓Zl, ↓Zs, ↓Zf, ↓Zm, ↓Zg, ↓Zb, ↓Zc, ↓vdn, vup, Zk, Zo, Zn, Zi, Zh, List.map_cons, List.map_nil, cond_true, cond_false, aop, Zv, Zq, Zp, ev, sput, Zt, Zy, Ya, unK, Zd, Zw, Nat.reduceBEq, Nat.reduceAdd, Int.reduceBEq, Int.reduceBNe, Int.reduceLT, Zu, Zz, tup, tyf, if_true]
        refine hZ [(2, .slice none 0 0), (3, .int .i64 0), (4, .pointer (some ⟨gl, 0, none⟩)), (6, r), (7, .slice (some ⟨n1, 0, none⟩) N N), (8, .slice (some ⟨n1 + 1, 0, none⟩) N N), (12, w), (86, .bool false)] _ _ ?_ (by simp (maxSteps := 2000000) only [↓Za, ↓Zj, ↓Zr, ↓Ze, ↓Zl, ↓Zs, ↓Zf, ↓Zm, ↓Zg, ↓Zb, ↓Zc, ↓vdn, vup, Zk, Zo, Zn, Zi, Zh, List.map_cons, List.map_nil, cond_true, cond_false, aop, Zv, Zq, Zp, ev, sput, Zt, Zy, Ya, unK, Zd, Zw, Nat.reduceBEq, Nat.reduceAdd, Int.reduceBEq, Int.reduceBNe, Int.reduceLT, Zu, Zz, tup, tyf])
        clear hZ
        try clear Z
        have hpp := hpart [] rfl
        rw [List.append_nil] at hpp
        rw [fw_zero, Nat.add_zero] at hsum
        have h1 : 2 ^ o.length - 1 ≠ 0 := by
          have : 2 ^ 1 ≤ 2 ^ o.length := Nat.pow_le_pow_right (by decide) hln.1
          omega
        have hpl : pre ≠ [] := by rintro rfl; exact h1 hpp
        have hpl6 : pre.length ≤ 6 := by rw [hsum]; exact fw_le6 ho (by omega)
        rcases how with ⟨_, hnil⟩ | ⟨b, ys, rfl, hblk⟩
        · exact absurd (List.map_eq_nil_iff.1 hnil) hpl
        have hbn := hbw b rfl
        rw [iL_len]
        refine Yc fun N21 hN21 => ?_
        simp (maxSteps := 2000000) only [s57, ↓Za, ↓Zj, ↓Zr, ↓Ze, ↓Zl, ↓Zs, ↓Zf, ↓Zm, ↓Zg, ↓Zb, ↓Zc, ↓vdn, vup, Zk, Zo, Zn, Zi, Zh, List.map_cons, List.map_nil, cond_true, cond_false, aop, Zv, Zq, Zp, ev, sput, Zt, Zy, Ya, unK, Zd, Zw, Nat.reduceBEq, Nat.reduceAdd, Int.reduceBEq, Int.reduceBNe, Int.reduceLT, Zu, Zz, tup, tyf, Yr, List.nil_append, List.append_nil, List.toList_toArray, List.cons_append]
        refine (sortO_call hblk (by omega) (fun x hx => by have := hpreN x hx; omega)).mono ?_
        rintro _ H2 ⟨L, hLp, hLs, hH2⟩
        refine hN21 [(2, .slice none 0 0), (3, .int .i64 0), (4, .pointer (some ⟨gl, 0, none⟩)), (6, r), (7, .slice (some ⟨n1, 0, none⟩) N N), (8, .slice (some ⟨n1 + 1, 0, none⟩) N N), (12, .slice (some ⟨b, 0, some 0⟩) pre.length (pre.length + ys.length)), (86, .bool false)] _ _ ?_ (by simp (maxSteps := 2000000) only [↓Za, ↓Zj, ↓Zr, ↓Ze, ↓Zl, ↓Zs, ↓Zf, ↓Zm, ↓Zg, ↓Zb, ↓Zc, ↓vdn, vup, Zk, Zo, Zn, Zi, Zh, List.map_cons, List.map_nil, cond_true, cond_false, aop, Zv, Zq, Zp, ev, sput, Zt, Zy, Ya, unK, Zd, Zw, Nat.reduceBEq, Nat.reduceAdd, Int.reduceBEq, Int.reduceBNe, Int.reduceLT, Zu, Zz, tup, tyf])
        clear hN21
        try clear N21
        refine Yj ?_
        simp (maxSteps := 2000000) only [s57, ↓Za, ↓Zj, ↓Zr, ↓Ze, ↓Zl, ↓Zs, ↓Zf, ↓Zm, ↓Zg, ↓Zb, ↓Zc, ↓vdn, vup, Zk, Zo, Zn, Zi, Zh, List.map_cons, List.map_nil, cond_true, cond_false, aop, Zv, Zq, Zp, ev, sput, Zt, Zy, Ya, unK, Zd, Zw, Nat.reduceBEq, Nat.reduceAdd, Int.reduceBEq, Int.reduceBNe, Int.reduceLT, Zu, Zz, tup, tyf]
        have hlXH : (X T F).length ≤ H.length := hEH.1
        have hgX : Ext (fun _ => False) g H2 := by
          rw [hH2]
          have e1 := ((hE.trans hE1).trans (xE T F)).trans hEH
          have := (hE.trans hE1).1
          exact e1.set_ge (by omega) _
        refine ⟨hgX, _, _, rfl, ?_⟩
        rw [ChainsIs, ho]
        refine ⟨rfl, L, pre, hpp, hsum, hLp, hLs, .inr ⟨b, ys, ?_, ?_⟩⟩
        · rw [iL_len, hLp.length_eq]
        · rw [hH2]; exact Xs (Yz hblk) _
      · have hz : (((t : Nat) : Int) != 0) = true := by rw [bne_iff_ne]; omega
        obtain ⟨c, hc, hok, hfc⟩ := hF.2 t (by omega) ht
        have hct := sub_leN hok.2.1
        have han := andNot_eq (a := t) (b := c) (by omega) (by omega)
        have hllt := less_lt hok.1 hok.2.1
        have hpl6 : pre.length ≤ 6 := by have := fw_le6 (t := 2 ^ o.length - 1) ho (by omega); omega
        refine Yc fun N22 hN22 => ?_
        simp (maxSteps := 2000000) only [s57, ↓Za, ↓Zj, ↓Zr, ↓Ze, ↓Zl, ↓Zs, ↓Zf, ↓Zm, ↓Zg, ↓Zb, ↓Zc, ↓vdn, vup, Zk, Zo, Zn, Zi, Zh, List.map_cons, List.map_nil, cond_true, cond_false, aop, Zv, Zq, Zp, ev, sput, Zt, Zy, Ya, unK, Zd, Zw, Nat.reduceBEq, Nat.reduceAdd, Int.reduceBEq, Int.reduceBNe, Int.reduceLT, Zu, Zz, tup, tyf, hz]
        refine hN22 [(2, .slice none 0 0), (3, .int .i64 0), (4, .pointer (some ⟨gl, 0, none⟩)), (6, r), (7, .slice (some ⟨n1, 0, none⟩) N N), (8, .slice (some ⟨n1 + 1, 0, none⟩) N N), (12, w), (13, Yb (t : Nat)), (86, .bool true)] _ _ ?_ (by simp (maxSteps := 2000000) only [↓Za, ↓Zj, ↓Zr, ↓Ze, ↓Zl, ↓Zs, ↓Zf, ↓Zm, ↓Zg, ↓Zb, ↓Zc, ↓vdn, vup, Zk, Zo, Zn, Zi, Zh, List.map_cons, List.map_nil, cond_true, cond_false, aop, Zv, Zq, Zp, ev, sput, Zt, Zy, Ya, unK, Zd, Zw, Nat.reduceBEq, Nat.reduceAdd, Int.reduceBEq, Int.reduceBNe, Int.reduceLT, Zu, Zz, tup, tyf])
        clear hN22
        try clear N22
        refine Ws rfl ?_
        refine Yj ?_
        simp (maxSteps := 2000000) only [s57, ↓Za, ↓Zj, ↓Zr, ↓Ze, ↓Zl, ↓Zs, ↓Zf, ↓Zm, ↓Zg, ↓Zb, ↓Zc, ↓vdn, vup, Zk, Zo, Zn, Zi, Zh, List.map_cons, List.map_nil, cond_true, cond_false, aop, Zv, Zq, Zp, ev, sput, Zt, Zy, Ya, unK, Zd, Zw, Nat.reduceBEq, Nat.reduceAdd, Int.reduceBEq, Int.reduceBNe, Int.reduceLT, Zu, Zz, tup, tyf]
        refine hC [(2, .slice none 0 0), (3, .int .i64 0), (4, .pointer (some ⟨gl, 0, none⟩)), (6, r), (7, .slice (some ⟨n1, 0, none⟩) N N), (8, .slice (some ⟨n1 + 1, 0, none⟩) N N), (12, w), (13, Yb (t : Nat))] _ _ ?_ (by simp (maxSteps := 2000000) only [↓Za, ↓Zj, ↓Zr, ↓Ze, ↓Zl, ↓Zs, ↓Zf, ↓Zm, ↓Zg, ↓Zb, ↓Zc, ↓vdn, vup, Zk, Zo, Zn, Zi, Zh, List.map_cons, List.map_nil, cond_true, cond_false, aop, Zv, Zq, Zp, ev, sput, Zt, Zy, Ya, unK, Zd, Zw, Nat.reduceBEq, Nat.reduceAdd, Int.reduceBEq, Int.reduceBNe, Int.reduceLT, Zu, Zz, tup, tyf])
        clear hC
        try clear C
        refine Yu fun B hB => ?_
        refine Yp ?_
        refine Yj ?_
        simp (maxSteps := 2000000) only [s57, ↓Za, ↓Zj, ↓Zr, ↓Ze, ↓Zl, ↓Zs, ↓Zf, ↓Zm, ↓Zg, ↓Zb, ↓Zc, ↓vdn, vup, Zk, Zo, Zn, Zi, Zh, List.map_cons, List.map_nil, cond_true, cond_false, aop, Zv, Zq, Zp, ev, sput, Zt, Zy, Ya, unK, Zd, Zw, Nat.reduceBEq, Nat.reduceAdd, Int.reduceBEq, Int.reduceBNe, Int.reduceLT, Zu, Zz, tup, tyf, idxS Xy Xr (show t < N by omega), loadX hF8 Yq (show t < F.length by omega), hc, litI1]
        refine OwnSl.append (x := (c : Int)) (how.ext (S := fun _ => False) (Ext.app _ _ _) (fun _ _ => id)) app_22_22 (by rw [iL_len]; omega) (Xc _ _) ?_
        intro w' G2 ho' hE' hb'
        rw [iL_snoc] at ho'
        have hE2 : Ext (fun _ => False) (X T F) G2 := ext_app hEH (H' := H ++ [Blk.ints [(c : Int)] 3 false]) (by simp) (fun q hq => List.getElem?_append_left (by have := hEH.1; omega)) (fun b hb => by have := hbw b hb; rw [xl]; exact this) hE'
        have hbw' : ∀ b, Yy w' = some b → n1 + 2 ≤ b := fun b hb => by
          rcases hb' with h1 | ⟨b', h1, h2⟩
          · exact hbw b (h1 ▸ hb)
          · rw [h1] at hb; cases hb
            rw [List.length_append] at h2
            have := hEH.1; rw [xl] at this; omega
        have hF9 : G2[n1 + 1]? = some (.ints F 3 false) := (hE2.2 _ (Yz (xF T F)) id).trans (xF T F)
        refine hB [(2, .slice none 0 0), (3, .int .i64 0), (4, .pointer (some ⟨gl, 0, none⟩)), (6, r), (7, .slice (some ⟨n1, 0, none⟩) N N), (8, .slice (some ⟨n1 + 1, 0, none⟩) N N), (12, w'), (13, Yb (t : Nat))] _ _ ?_ (by simp (maxSteps := 2000000) only [↓Za, ↓Zj, ↓Zr, ↓Ze, ↓Zl, ↓Zs, ↓Zf, ↓Zm, ↓Zg, ↓Zb, ↓Zc, ↓vdn, vup, Zk, Zo, Zn, Zi, Zh, List.map_cons, List.map_nil, cond_true, cond_false, aop, Zv, Zq, Zp, ev, sput, Zt, Zy, Ya, unK, Zd, Zw, Nat.reduceBEq, Nat.reduceAdd, Int.reduceBEq, Int.reduceBNe, Int.reduceLT, Zu, Zz, tup, tyf])
        clear hB
        try clear B
        refine Yj ?_
        simp (maxSteps := 2000000) only [s57, ↓Za, ↓Zj, ↓Zr, ↓Ze, ↓Zl, ↓Zs, ↓Zf, ↓Zm, ↓Zg, ↓Zb, ↓Zc, ↓vdn, vup, Zk, Zo, Zn, Zi, Zh, List.map_cons, List.map_nil, cond_true, cond_false, aop, Zv, Zq, Zp, ev, sput, Zt, Zy, Ya, unK, Zd, Zw, Nat.reduceBEq, Nat.reduceAdd, Int.reduceBEq, Int.reduceBNe, Int.reduceLT, Zu, Zz, tup, tyf, idxS Xy Xr (show t < N by omega), loadX hF9 Yq (show t < F.length by omega), hc, han]
        refine hQ2 _ _ _ ⟨(Xi t c, pre ++ [c], w', G2), ⟨by simp only; omega, ho', hE2, hbw', part_app hpart hok, ?_, fun d hd => ?_⟩, hllt, by simp (maxSteps := 2000000) only [↓Za, ↓Zj, ↓Zr, ↓Ze, ↓Zl, ↓Zs, ↓Zf, ↓Zm, ↓Zg, ↓Zb, ↓Zc, ↓vdn, vup, Zk, Zo, Zn, Zi, Zh, List.map_cons, List.map_nil, cond_true, cond_false, aop, Zv, Zq, Zp, ev, sput, Zt, Zy, Ya, unK, Zd, Zw, Nat.reduceBEq, Nat.reduceAdd, Int.reduceBEq, Int.reduceBNe, Int.reduceLT, Zu, Zz, tup, tyf], rfl⟩
        · simp only [List.length_append, List.length_singleton]; omega
        · simp only at hd
          rcases List.mem_append.1 hd with h1 | h1
          · exact hpreN d h1
          · rw [List.mem_singleton.1 h1]; omega
end Go.Proofs.Tryd.Am

namespace Go.Proofs.Tryd.Am
open Go.Am
set_option maxRecDepth 100000
end Go.Proofs.Tryd.Am

namespace Go.Proofs.Tryd.Am
open Go.Am Ord
set_option maxRecDepth 100000
set_option maxHeartbeats 1000000

section
variable {h : Zx} {b : Nat} {e : TypeId} {ro : Bool} {x y : Int} {K : Value → Prop}
end

end Go.Proofs.Tryd.Am

namespace Go.Proofs.Tryd.Am
open Go.Am Ord
set_option maxRecDepth 100000
set_option maxHeartbeats 1000000

end Go.Proofs.Tryd.Am

namespace Go.Proofs.Tryd.Am
open Go.Am Ord
set_option maxRecDepth 100000
set_option maxHeartbeats 1000000

end Go.Proofs.Tryd.Am

namespace Go.Proofs.Tryd.Am
open Go.Am Ord
set_option maxRecDepth 100000
set_option maxHeartbeats 1000000

end Go.Proofs.Tryd.Am

namespace Go.Proofs.Tryd.Am
open Go.Am Ord
set_option maxRecDepth 100000
set_option maxHeartbeats 1000000

theorem AddR.ext {o : List Int} {i j : Int} {s : Value} {e : Int} {h h' : Zx} (ha : AddR o i j s e h) (hE : Ext (fun _ => False) h h') : AddR o i j s e h' := by
  by_cases h1 : ord o = true ∧ elI o i = true ∧ elI o j = true
  · rw [AddR, if_pos h1] at ha ⊢
    by_cases h2 : fr o i.toNat j.toNat = true
    · rw [if_pos h2] at ha ⊢; exact ⟨ha.1, Wc ha.2 hE⟩
    · rw [if_neg h2] at ha ⊢; exact ha
  · rw [AddR, if_neg h1] at ha ⊢; exact ha

end Go.Proofs.Tryd.Am

/-
  sure: the graph of all words of some length.
  sure: how many words of a set can be in one code: the program's count.
  sure: the first greatest code, as the program finds it.
  Printed by gen.py: the code of some functions, without what no step looks at; held against the program's own by the kernel.
  sure: the sets of neighbours, by the program and by the reference.
  sure: how many sets of neighbours are needed: the program's and the reference's table.
-/
import Derived.Test.YtaagkbbphgdcdaaDoorPk5
import Derived.Test.YtaagkbbphgdcdaaDoorPk3
import Derived.Test.YtaagkbbphgdcdaaDoorProg
import Derived.KernelRfl
import Derived.Shelf.Abstract
import Derived.Test.YtaagkbbphgdcdaaDoorPk4
set_option linter.all false
namespace Go.Proofs.Tryd.Am
open Go.Am Sr
set_option maxRecDepth 100000
set_option maxHeartbeats 1000000

abbrev pt (b : Nat) : Value := .pointer (some ⟨b, 0, none⟩)
theorem set_last (g : Yd) (B C : Blk) : (g ++ [B]).set g.length C = g ++ [C] := by
  apply List.ext_getElem?
  intro i
  by_cases hi : i = g.length
  · subst hi; simp
  · rw [List.getElem?_set_ne (Ne.symm hi)]
    by_cases h2 : i < g.length
    · rw [List.getElem?_append_left h2, List.getElem?_append_left h2]
    · rw [List.getElem?_eq_none (by simp; omega), List.getElem?_eq_none (by simp; omega)]
theorem Xn {h h' : Yd} {v : Value} {xs : List Int} (hv : IntSl h v xs) (hE : Ext (fun _ => False) h h') : IntSl h' v xs := hv.same fun b hb => hE.2 b (hv.lt hb) id
theorem ownV_one {e : TypeId} {h : Yd} {v : Value} {ws : List Value} (ho : OwnV e h v ws) : one v = true := by
  rcases ho with ⟨rfl, _⟩ | ⟨b, ys, rfl, _⟩ <;> rfl
theorem litU {h : Yd} {s : Int} {K : Value → Yd → Prop} : Yt prog h 60 1 [(0, .int .u64 s)] K = K (.slice (some ⟨h.length, 0, none⟩) 1 1) (h ++ [.cells [.int .u64 s] 63 false]) := by
  have e1 : fillL (fun i => some (i * 1, 1)) (reps [.int .u64 0] 1) [(0, .int .u64 s)] = some [.int .u64 s] := by simp [fillL, Va, cellsOf, reps, Yr]
  have e2 : mkb [.int .u64 s] 63 = .cells [.int .u64 s] 63 false := mkb_no (by simp) fun w' hw' => by
    rw [List.mem_singleton.1 hw']; rfl
  simp only [Yt, el_60, zero_63, esz_63, e1, e2]
  exact propext ⟨fun h => h.2.2.2, fun h => ⟨rfl, by decide, by decide, h⟩⟩
theorem litU_val (h : Yd) (s : Int) : ValSl (h ++ [.cells [.int .u64 s] 63 false]) (.slice (some ⟨h.length, 0, none⟩) 1 1) [.int .u64 s] :=
  .inr ⟨h.length, 0, none, 1, [.int .u64 s], 63, false, rfl, Nat.le_refl _, by simp [view, Blk.view], rfl⟩
theorem bld62 {K : Value → Prop} : buildK prog 62 [(0, .int .i64 1)] K = K (.agg #[.int .i64 1, .slice none 0 0]) := by
  simp [buildK, zero_62, fillL, pl_62_0, Va, cellsOf, Yr]
theorem box62 {h : Yd} {a b : Value} {K : Value → Yd → Prop} : boxK prog h 62 (.agg #[a, b]) K = K (Wd h) (h ++ [.cells [a, b] 62 false]) := by
  simp [boxK, esz_62, cellsOf]

def WO (h : Yd) (b : Nat) (nr : List Nat) : Prop := ∃ nv, h[b]? = some (.cells [Zy nr.length, nv] 62 false) ∧ ValSl h nv (nr.map fun x => vu x)
theorem WO.ext {h h' : Yd} {b : Nat} {nr : List Nat} (w : WO h b nr) (hE : Ext (fun _ => False) h h') : WO h' b nr := by
  obtain ⟨nv, h1, h2⟩ := w
  exact ⟨nv, (hE.2 b (Xg h1) id).trans h1, h2.ext hE⟩

theorem words_call [Tabs prog] {h : Yd} {v : Value} {xs : List Int} (hv : IntSl h v xs) (g : Gs xs) {k : Nat} (hk : k ≤ 6) :
    ACall prog 52 [v, Zy k] h fun r h' => Ext (fun _ => False) h h' ∧ if wn xs k ≤ 64 then ∃ b, r = .tuple #[pt b, .bool true] ∧ WO h' b (Wm xs k) else r = .tuple #[.pointer none, .bool false] := by
  have h0 : 0 < xs.length := g.1
  have mono : ∀ i, i ≤ k → wn xs i ≤ wn xs k := fun i hi => Nat.pow_le_pow_right h0 hi
  have hb : ∀ i : Nat, (h ++ [Blk.cells [Zy (wn xs i : Nat), .slice none 0 0] 62 false])[h.length]? = some (.cells [Zy (wn xs i : Nat), .slice none 0 0] 62 false) := fun i => Xp _ _
  have ld : ∀ (i : Nat) {K : Value → Prop}, Xt prog (h ++ [Blk.cells [Zy (wn xs i : Nat), .slice none 0 0] 62 false]) 3 (.pointer (some ⟨h.length, 0, none⟩)) K = K (Zy (wn xs i : Nat)) := fun i {K} => loadC (o := 0) (hb i) Xl rfl
  have st : ∀ (i : Nat) {z : Int} {K : Yd → Prop}, Xu prog (h ++ [Blk.cells [Zy (wn xs i : Nat), .slice none 0 0] 62 false]) 3 (.pointer (some ⟨h.length, 0, none⟩)) (.int .i64 z) K = K (h ++ [Blk.cells [Zy z, .slice none 0 0] 62 false]) := fun i {z K} => by
    rw [storeC (hb i) Xl rfl (by simp), set_last]; rfl
  have hv1 : ∀ i : Nat, IntSl (h ++ [Blk.cells [Zy (wn xs i : Nat), .slice none 0 0] 62 false]) v xs := fun i => Xn hv (Ext.app (fun _ => False) h _)
  refine s52_call (by simp) ?_
  simp only [s52]
  refine aw_cut fun N hN => ?_
  simp (maxSteps := 2000000) only [s52, ↓Za, ↓Zk, ↓Zs, ↓Zf, ↓Zn, ↓Zt, ↓Ze, ↓Zj, ↓Zg, ↓Zb, ↓Zc, ↓vdn, vup, Zl, Zh, Zi, Zm, Zo, List.map_cons, List.map_nil, cond_true, cond_false, aop, Zw, Zr, Zp, ev, sput, Zu, Zz, Yb, unK, Zd, Zx, Nat.reduceBEq, Nat.reduceAdd, Int.reduceBEq, Int.reduceBNe, Int.reduceLT, Zv, Ya, tup, tyf]
  refine hN _ _ ?_
  clear hN N
  refine aw_cut fun N hN => ?_
  simp (maxSteps := 2000000) only [s52, ↓Za, ↓Zk, ↓Zs, ↓Zf, ↓Zn, ↓Zt, ↓Ze, ↓Zj, ↓Zg, ↓Zb, ↓Zc, ↓vdn, vup, Zl, Zh, Zi, Zm, Zo, List.map_cons, List.map_nil, cond_true, cond_false, aop, Zw, Zr, Zp, ev, sput, Zu, Zz, Yb, unK, Zd, Zx, Nat.reduceBEq, Nat.reduceAdd, Int.reduceBEq, Int.reduceBNe, Int.reduceLT, Zv, Ya, tup, tyf, bld62, box62, Wd]
  refine hN _ _ ?_
  clear hN N
  refine aw_cut fun N hN => ?_
  simp (maxSteps := 2000000) only [s52, ↓Za, ↓Zk, ↓Zs, ↓Zf, ↓Zn, ↓Zt, ↓Ze, ↓Zj, ↓Zg, ↓Zb, ↓Zc, ↓vdn, vup, Zl, Zh, Zi, Zm, Zo, List.map_cons, List.map_nil, cond_true, cond_false, aop, Zw, Zr, Zp, ev, sput, Zu, Zz, Yb, unK, Zd, Zx, Nat.reduceBEq, Nat.reduceAdd, Int.reduceBEq, Int.reduceBNe, Int.reduceLT, Zv, Ya, tup, tyf, ↓Xd]
  refine Yh fun Q hQ => ?_
  refine Wt (γ := Nat) (fun i => i ≤ k ∧ wn xs i ≤ 64)
    (fun i => ([(0, v), (1, Zy k), (4, .pointer none), (5, .bool false), (6, pt h.length), (12, Zy k), (13, Zy i)], h ++ [Blk.cells [Zy (wn xs i : Nat), .slice none 0 0] 62 false])) (fun i => k - i) 0 ⟨Nat.zero_le _, by show 1 ≤ 64; decide⟩ (by simp (maxSteps := 2000000) only [↓Za, ↓Zk, ↓Zs, ↓Zf, ↓Zn, ↓Zt, ↓Ze, ↓Zj, ↓Zg, ↓Zb, ↓Zc, ↓vdn, vup, Zl, Zh, Zi, Zm, Zo, List.map_cons, List.map_nil, cond_true, cond_false, aop, Zw, Zr, Zp, ev, sput, Zu, Zz, Yb, unK, Zd, Zx, Nat.reduceBEq, Nat.reduceAdd, Int.reduceBEq, Int.reduceBNe, Int.reduceLT, Zv, Ya, tup, tyf, Int.natCast_zero]) rfl ?_
  rintro i ⟨hi, hw⟩
  refine Wr fun Q2 hQ2 => ?_
  by_cases hin : (i : Int) < k
  · have hi' : i < k := by omega
    have e : wn xs i * xs.length = wn xs (i + 1) := (Nat.pow_succ ..).symm
    have h6 := g.2.1
    have hle := wn_le g (show i + 1 ≤ 6 by omega)
    have hm : mulV .i64 ((wn xs i : Nat) : Int) ((xs.length : Nat) : Int) = ((wn xs (i + 1) : Nat) : Int) := by
      rw [mulN (by rw [e]; omega), e]
    by_cases hbig : 64 < wn xs (i + 1)
    · have hb2 : (64 : Int) < ((wn xs (i + 1) : Nat) : Int) := by omega
      simp (maxSteps := 2000000) only [s52, ↓Za, ↓Zk, ↓Zs, ↓Zf, ↓Zn, ↓Zt, ↓Ze, ↓Zj, ↓Zg, ↓Zb, ↓Zc, ↓vdn, vup, Zl, Zh, Zi, Zm, Zo, List.map_cons, List.map_nil, cond_true, cond_false, aop, Zw, Zr, Zp, ev, sput, Zu, Zz, Yb, unK, Zd, Zx, Nat.reduceBEq, Nat.reduceAdd, Int.reduceBEq, Int.reduceBNe, Int.reduceLT, Zv, Ya, tup, tyf, l52_0, hin, nilK, fldA fld_62_0 Xi, ld i, (hv1 i).len, hm, st i, ld (i + 1), gt_iff_lt, hb2]
      refine hQ2 _ _ _ (hQ _ _ _ ?_)
      simp (maxSteps := 2000000) only [s52, ↓Za, ↓Zk, ↓Zs, ↓Zf, ↓Zn, ↓Zt, ↓Ze, ↓Zj, ↓Zg, ↓Zb, ↓Zc, ↓vdn, vup, Zl, Zh, Zi, Zm, Zo, List.map_cons, List.map_nil, cond_true, cond_false, aop, Zw, Zr, Zp, ev, sput, Zu, Zz, Yb, unK, Zd, Zx, Nat.reduceBEq, Nat.reduceAdd, Int.reduceBEq, Int.reduceBNe, Int.reduceLT, Zv, Ya, tup, tyf]
      have := mono (i + 1) (by omega)
      rw [if_neg (by omega)]
      exact ⟨Ext.app _ _ _, trivial⟩
    · have hb2 : ¬ (64 : Int) < ((wn xs (i + 1) : Nat) : Int) := by omega
      simp (maxSteps := 2000000) only [s52, ↓Za, ↓Zk, ↓Zs, ↓Zf, ↓Zn, ↓Zt, ↓Ze, ↓Zj, ↓Zg, ↓Zb, ↓Zc, ↓vdn, vup, Zl, Zh, Zi, Zm, Zo, List.map_cons, List.map_nil, cond_true, cond_false, aop, Zw, Zr, Zp, ev, sput, Zu, Zz, Yb, unK, Zd, Zx, Nat.reduceBEq, Nat.reduceAdd, Int.reduceBEq, Int.reduceBNe, Int.reduceLT, Zv, Ya, tup, tyf, l52_0, hin, nilK, fldA fld_62_0 Xi, ld i, (hv1 i).len, hm, st i, ld (i + 1), gt_iff_lt, hb2, add1 (show i < 9223372036854775807 by omega)]
      exact hQ2 _ _ _ ⟨i + 1, ⟨by omega, by omega⟩, by omega, by simp (maxSteps := 2000000) only [↓Za, ↓Zk, ↓Zs, ↓Zf, ↓Zn, ↓Zt, ↓Ze, ↓Zj, ↓Zg, ↓Zb, ↓Zc, ↓vdn, vup, Zl, Zh, Zi, Zm, Zo, List.map_cons, List.map_nil, cond_true, cond_false, aop, Zw, Zr, Zp, ev, sput, Zu, Zz, Yb, unK, Zd, Zx, Nat.reduceBEq, Nat.reduceAdd, Int.reduceBEq, Int.reduceBNe, Int.reduceLT, Zv, Ya, tup, tyf], rfl⟩
  · obtain rfl : i = k := by omega
    simp (maxSteps := 2000000) only [s52, ↓Za, ↓Zk, ↓Zs, ↓Zf, ↓Zn, ↓Zt, ↓Ze, ↓Zj, ↓Zg, ↓Zb, ↓Zc, ↓vdn, vup, Zl, Zh, Zi, Zm, Zo, List.map_cons, List.map_nil, cond_true, cond_false, aop, Zw, Zr, Zp, ev, sput, Zu, Zz, Yb, unK, Zd, Zx, Nat.reduceBEq, Nat.reduceAdd, Int.reduceBEq, Int.reduceBNe, Int.reduceLT, Zv, Ya, tup, tyf, l52_0, Int.lt_irrefl]
    refine hQ2 _ _ _ (hQ _ _ _ ?_)
    simp (maxSteps := 2000000) only [s52, ↓Za, ↓Zk, ↓Zs, ↓Zf, ↓Zn, ↓Zt, ↓Ze, ↓Zj, ↓Zg, ↓Zb, ↓Zc, ↓vdn, vup, Zl, Zh, Zi, Zm, Zo, List.map_cons, List.map_nil, cond_true, cond_false, aop, Zw, Zr, Zp, ev, sput, Zu, Zz, Yb, unK, Zd, Zx, Nat.reduceBEq, Nat.reduceAdd, Int.reduceBEq, Int.reduceBNe, Int.reduceLT, Zv, Ya, tup, tyf, if_true]
    refine hN _ _ ?_
    clear hN N hQ2 Q2 hQ Q
    refine aw_cut fun N hN => ?_
    simp (maxSteps := 2000000) only [s52, ↓Za, ↓Zk, ↓Zs, ↓Zf, ↓Zn, ↓Zt, ↓Ze, ↓Zj, ↓Zg, ↓Zb, ↓Zc, ↓vdn, vup, Zl, Zh, Zi, Zm, Zo, List.map_cons, List.map_nil, cond_true, cond_false, aop, Zw, Zr, Zp, ev, sput, Zu, Zz, Yb, unK, Zd, Zx, Nat.reduceBEq, Nat.reduceAdd, Int.reduceBEq, Int.reduceBNe, Int.reduceLT, Zv, Ya, tup, tyf, nilK, fldA fld_62_0 Xi, ld i, ↓Xd]
    refine Yh fun Q hQ => ?_
    refine Wt (γ := Nat × Yd × Value) (fun s => s.1 ≤ wn xs i ∧ Ext (fun _ => False) h s.2.1 ∧ s.2.1[h.length]? = some (.cells [Zy (wn xs i : Nat), s.2.2] 62 false) ∧ OwnV 63 s.2.1 s.2.2 (((List.range s.1).map (nearW xs i)).map fun x => vu x) ∧ ∀ b, Yq s.2.2 = some b → h.length < b)
      (fun s => ([(0, v), (1, Zy i), (4, .pointer none), (5, .bool false), (6, pt h.length), (33, Zy (wn xs i : Nat)), (34, Zy s.1)], s.2.1)) (fun s => wn xs i - s.1) (0, _, .slice none 0 0)
      ⟨Nat.zero_le _, Ext.app _ _ _, hb i, .inl ⟨rfl, rfl⟩, fun b h => by cases h⟩ (by simp (maxSteps := 2000000) only [↓Za, ↓Zk, ↓Zs, ↓Zf, ↓Zn, ↓Zt, ↓Ze, ↓Zj, ↓Zg, ↓Zb, ↓Zc, ↓vdn, vup, Zl, Zh, Zi, Zm, Zo, List.map_cons, List.map_nil, cond_true, cond_false, aop, Zw, Zr, Zp, ev, sput, Zu, Zz, Yb, unK, Zd, Zx, Nat.reduceBEq, Nat.reduceAdd, Int.reduceBEq, Int.reduceBNe, Int.reduceLT, Zv, Ya, tup, tyf, Int.natCast_zero]) rfl ?_
    rintro ⟨a, hp, nv⟩ ⟨ha, hE, hc, ho, hbl⟩
    simp only at ha hE hc ho hbl
    refine Wr fun Q2 hQ2 => ?_
    have ldp : ∀ {K : Value → Prop}, Xt prog hp 3 (.pointer (some ⟨h.length, 0, none⟩)) K = K (Zy (wn xs i : Nat)) := fun {K} => loadC (o := 0) hc Xl rfl
    have ldn : ∀ {K : Value → Prop}, Xt prog hp 60 (.pointer (some ⟨h.length, 1, none⟩)) K = K nv := fun {K} => loadC (o := 1) hc shp_60 rfl
    by_cases hin : (a : Int) < (wn xs i : Nat)
    · have ha' : a < wn xs i := by omega
      obtain ⟨p, hp'⟩ : ∃ p : Nat → Bool, p = fun b => a != b && cf xs i a b := ⟨_, rfl⟩
      have hmk : ∀ j, mk p j < 2 ^ j := mk_lt p
      simp (maxSteps := 2000000) only [s52, ↓Za, ↓Zk, ↓Zs, ↓Zf, ↓Zn, ↓Zt, ↓Ze, ↓Zj, ↓Zg, ↓Zb, ↓Zc, ↓vdn, vup, Zl, Zh, Zi, Zm, Zo, List.map_cons, List.map_nil, cond_true, cond_false, aop, Zw, Zr, Zp, ev, sput, Zu, Zz, Yb, unK, Zd, Zx, Nat.reduceBEq, Nat.reduceAdd, Int.reduceBEq, Int.reduceBNe, Int.reduceLT, Zv, Ya, tup, tyf, l52_2, hin, nilK, fldA fld_62_0 Xi, ldp, ↓Xd]
      refine Yh fun Q3 hQ3 => ?_
      refine Wt (γ := Nat) (fun j => j ≤ wn xs i)
        (fun j => ([(0, v), (1, Zy i), (4, .pointer none), (5, .bool false), (6, pt h.length), (7, Zy a), (8, vu (mk p j)), (33, Zy (wn xs i : Nat)), (34, Zy a), (40, Zy (wn xs i : Nat)), (41, Zy j)], hp)) (fun j => wn xs i - j) 0 (Nat.zero_le _) (by simp (maxSteps := 2000000) only [↓Za, ↓Zk, ↓Zs, ↓Zf, ↓Zn, ↓Zt, ↓Ze, ↓Zj, ↓Zg, ↓Zb, ↓Zc, ↓vdn, vup, Zl, Zh, Zi, Zm, Zo, List.map_cons, List.map_nil, cond_true, cond_false, aop, Zw, Zr, Zp, ev, sput, Zu, Zz, Yb, unK, Zd, Zx, Nat.reduceBEq, Nat.reduceAdd, Int.reduceBEq, Int.reduceBNe, Int.reduceLT, Zv, Ya, tup, tyf, vu, mk_zero, Int.natCast_zero]) rfl ?_
      intro j hj
      refine Wr fun Q4 hQ4 => ?_
      by_cases hjn : (j : Int) < (wn xs i : Nat)
      · have hj' : j < wn xs i := by omega
        have p1 := hmk j
        have p2 : 2 ^ (j + 1) ≤ 2 ^ 64 := Nat.pow_le_pow_right (by decide) (by omega)
        have p3 : 2 ^ (j + 1) = 2 ^ j * 2 := Nat.pow_succ ..
        have hor : Wk .or .u64 ((mk p j : Nat) : Int) ((2 ^ j : Nat) : Int) = ((mk p j ||| 2 ^ j : Nat) : Int) := orU (by omega) (by omega)
        cases haj : (a == j) with
        | true =>
          have e : mk p (j + 1) = mk p j := by
            have : p j = false := by rw [hp']; simp only [bne, haj]; rfl
            rw [mk, this]; rfl
          simp (maxSteps := 2000000) only [s52, ↓Za, ↓Zk, ↓Zs, ↓Zf, ↓Zn, ↓Zt, ↓Ze, ↓Zj, ↓Zg, ↓Zb, ↓Zc, ↓vdn, vup, Zl, Zh, Zi, Zm, Zo, List.map_cons, List.map_nil, cond_true, cond_false, aop, Zw, Zr, Zp, ev, sput, Zu, Zz, Yb, unK, Zd, Zx, Nat.reduceBEq, Nat.reduceAdd, Int.reduceBEq, Int.reduceBNe, Int.reduceLT, Zv, Ya, tup, tyf, l52_1, hjn, bneN, haj, Bool.not_true, add1 (show j < 9223372036854775807 by omega)]
          exact hQ4 _ _ _ ⟨j + 1, by omega, by omega, by simp (maxSteps := 2000000) only [↓Za, ↓Zk, ↓Zs, ↓Zf, ↓Zn, ↓Zt, ↓Ze, ↓Zj, ↓Zg, ↓Zb, ↓Zc, ↓vdn, vup, Zl, Zh, Zi, Zm, Zo, List.map_cons, List.map_nil, cond_true, cond_false, aop, Zw, Zr, Zp, ev, sput, Zu, Zz, Yb, unK, Zd, Zx, Nat.reduceBEq, Nat.reduceAdd, Int.reduceBEq, Int.reduceBNe, Int.reduceLT, Zv, Ya, tup, tyf, e], rfl⟩
        | false =>
          simp (maxSteps := 2000000) only [s52, ↓Za, ↓Zk, ↓Zs, ↓Zf, ↓Zn, ↓Zt, ↓Ze, ↓Zj, ↓Zg, ↓Zb, ↓Zc, ↓vdn, vup, Zl, Zh, Zi, Zm, Zo, List.map_cons, List.map_nil, cond_true, cond_false, aop, Zw, Zr, Zp, ev, sput, Zu, Zz, Yb, unK, Zd, Zx, Nat.reduceBEq, Nat.reduceAdd, Int.reduceBEq, Int.reduceBNe, Int.reduceLT, Zv, Ya, tup, tyf, l52_1, hjn, bneN, haj, Bool.not_false, Yy, List.nil_append, List.append_nil, List.toList_toArray, List.cons_append]
          refine (confused_call (Xn hv hE) g (show a < 9223372036854775808 by omega) (show j < 9223372036854775808 by omega) (show i < 9223372036854775807 by omega)).mono ?_
          rintro _ hp ⟨rfl, rfl⟩
          cases hcf : cf xs i a j with
          | true =>
            have e : mk p (j + 1) = mk p j ||| 2 ^ j := by
              have : p j = true := by rw [hp']; simp only [bne, haj, hcf]; rfl
              rw [mk, this]; rfl
            simp (maxSteps := 2000000) only [s52, ↓Za, ↓Zk, ↓Zs, ↓Zf, ↓Zn, ↓Zt, ↓Ze, ↓Zj, ↓Zg, ↓Zb, ↓Zc, ↓vdn, vup, Zl, Zh, Zi, Zm, Zo, List.map_cons, List.map_nil, cond_true, cond_false, aop, Zw, Zr, Zp, ev, sput, Zu, Zz, Yb, unK, Zd, Zx, Nat.reduceBEq, Nat.reduceAdd, Int.reduceBEq, Int.reduceBNe, Int.reduceLT, Zv, Ya, tup, tyf, Int.natCast_nonneg, shlU1 (show j < 64 by omega), hor, add1 (show j < 9223372036854775807 by omega)]
            exact hQ4 _ _ _ ⟨j + 1, by omega, by omega, by simp (maxSteps := 2000000) only [↓Za, ↓Zk, ↓Zs, ↓Zf, ↓Zn, ↓Zt, ↓Ze, ↓Zj, ↓Zg, ↓Zb, ↓Zc, ↓vdn, vup, Zl, Zh, Zi, Zm, Zo, List.map_cons, List.map_nil, cond_true, cond_false, aop, Zw, Zr, Zp, ev, sput, Zu, Zz, Yb, unK, Zd, Zx, Nat.reduceBEq, Nat.reduceAdd, Int.reduceBEq, Int.reduceBNe, Int.reduceLT, Zv, Ya, tup, tyf, e], rfl⟩
          | false =>
            have e : mk p (j + 1) = mk p j := by
              have : p j = false := by rw [hp']; simp only [hcf, Bool.and_false]
              rw [mk, this]; rfl
            simp (maxSteps := 2000000) only [s52, ↓Za, ↓Zk, ↓Zs, ↓Zf, ↓Zn, ↓Zt, ↓Ze, ↓Zj, ↓Zg, ↓Zb, ↓Zc, ↓vdn, vup, Zl, Zh, Zi, Zm, Zo, List.map_cons, List.map_nil, cond_true, cond_false, aop, Zw, Zr, Zp, ev, sput, Zu, Zz, Yb, unK, Zd, Zx, Nat.reduceBEq, Nat.reduceAdd, Int.reduceBEq, Int.reduceBNe, Int.reduceLT, Zv, Ya, tup, tyf, add1 (show j < 9223372036854775807 by omega)]
            exact hQ4 _ _ _ ⟨j + 1, by omega, by omega, by simp (maxSteps := 2000000) only [↓Za, ↓Zk, ↓Zs, ↓Zf, ↓Zn, ↓Zt, ↓Ze, ↓Zj, ↓Zg, ↓Zb, ↓Zc, ↓vdn, vup, Zl, Zh, Zi, Zm, Zo, List.map_cons, List.map_nil, cond_true, cond_false, aop, Zw, Zr, Zp, ev, sput, Zu, Zz, Yb, unK, Zd, Zx, Nat.reduceBEq, Nat.reduceAdd, Int.reduceBEq, Int.reduceBNe, Int.reduceLT, Zv, Ya, tup, tyf, e], rfl⟩
      · obtain rfl : j = wn xs i := by omega
        simp (maxSteps := 2000000) only [s52, ↓Za, ↓Zk, ↓Zs, ↓Zf, ↓Zn, ↓Zt, ↓Ze, ↓Zj, ↓Zg, ↓Zb, ↓Zc, ↓vdn, vup, Zl, Zh, Zi, Zm, Zo, List.map_cons, List.map_nil, cond_true, cond_false, aop, Zw, Zr, Zp, ev, sput, Zu, Zz, Yb, unK, Zd, Zx, Nat.reduceBEq, Nat.reduceAdd, Int.reduceBEq, Int.reduceBNe, Int.reduceLT, Zv, Ya, tup, tyf, l52_1, Int.lt_irrefl]
        refine hQ4 _ _ _ (hQ3 _ _ _ ?_)
        simp (maxSteps := 2000000) only [s52, ↓Za, ↓Zk, ↓Zs, ↓Zf, ↓Zn, ↓Zt, ↓Ze, ↓Zj, ↓Zg, ↓Zb, ↓Zc, ↓vdn, vup, Zl, Zh, Zi, Zm, Zo, List.map_cons, List.map_nil, cond_true, cond_false, aop, Zw, Zr, Zp, ev, sput, Zu, Zz, Yb, unK, Zd, Zx, Nat.reduceBEq, Nat.reduceAdd, Int.reduceBEq, Int.reduceBNe, Int.reduceLT, Zv, Ya, tup, tyf, if_true, nilK, fldA fld_62_0 Xi, fldA fld_62_1 esz_60, ldn, litU]
        have en : mk p (wn xs i) = nearW xs i a := by rw [hp']; rfl
        rw [en]
        have hE1 : Ext (fun _ => False) hp (hp ++ [Blk.cells [.int .u64 ((nearW xs i a : Nat) : Int)] 63 false]) := Ext.app _ _ _
        refine (ho.ext hE1).app app_60_60 (litU_val hp _) ?_ ?_ fun nv2 h2 ho2 hE2 hb2 => ?_
        · intro w hw
          rcases List.mem_append.1 hw with hw | hw
          · obtain ⟨z, _, rfl⟩ := List.mem_map.1 hw; exact ⟨rfl, rfl⟩
          · rw [List.mem_singleton.1 hw]; exact ⟨rfl, rfl⟩
        · simp only [List.length_map, List.length_range, List.length_singleton]; omega
        have hlt := Xg hc
        have hc2 : h2[h.length]? = some (.cells [Zy (wn xs i : Nat), nv] 62 false) := by
          rw [hE2.2 _ (Nat.lt_of_lt_of_le hlt hE1.1) fun h1 => by have := hbl _ h1; omega, hE1.2 _ hlt id]; exact hc
        have hst : ∀ {K : Yd → Prop}, Xu prog h2 60 (.pointer (some ⟨h.length, 1, none⟩)) nv2 K = K (h2.set h.length (.cells [Zy (wn xs i : Nat), nv2] 62 false)) := fun {K} => by
          rw [storeC hc2 shp_60 (ownV_one ho2) (by simp)]; rfl
        have hb3 : ∀ b, Yq nv2 = some b → h.length < b := fun b h1 => by
          rcases hb2 with h3 | ⟨b', h3, h4⟩
          · exact hbl b (h3 ▸ h1)
          · rw [h3] at h1; cases h1; have := hE1.1; omega
        simp (maxSteps := 2000000) only [s52, ↓Za, ↓Zk, ↓Zs, ↓Zf, ↓Zn, ↓Zt, ↓Ze, ↓Zj, ↓Zg, ↓Zb, ↓Zc, ↓vdn, vup, Zl, Zh, Zi, Zm, Zo, List.map_cons, List.map_nil, cond_true, cond_false, aop, Zw, Zr, Zp, ev, sput, Zu, Zz, Yb, unK, Zd, Zx, Nat.reduceBEq, Nat.reduceAdd, Int.reduceBEq, Int.reduceBNe, Int.reduceLT, Zv, Ya, tup, tyf, hst, add1 (show a < 9223372036854775807 by omega)]
        refine hQ2 _ _ _ ⟨(a + 1, h2.set h.length (.cells [Zy (wn xs i : Nat), nv2] 62 false), nv2), ⟨by simp only; omega, ⟨?_, fun x hx _ => ?_⟩, get_set (Xg hc2) _, ?_, hb3⟩, by simp only; omega, by simp (maxSteps := 2000000) only [↓Za, ↓Zk, ↓Zs, ↓Zf, ↓Zn, ↓Zt, ↓Ze, ↓Zj, ↓Zg, ↓Zb, ↓Zc, ↓vdn, vup, Zl, Zh, Zi, Zm, Zo, List.map_cons, List.map_nil, cond_true, cond_false, aop, Zw, Zr, Zp, ev, sput, Zu, Zz, Yb, unK, Zd, Zx, Nat.reduceBEq, Nat.reduceAdd, Int.reduceBEq, Int.reduceBNe, Int.reduceLT, Zv, Ya, tup, tyf], rfl⟩
        · rw [List.length_set]; have := hE.1; have := hE1.1; have := hE2.1; omega
        · have l1 := hE.1
          have l2 := hE1.1
          rw [List.getElem?_set_ne (by omega), hE2.2 x (by omega) fun h1 => by have := hbl _ h1; omega, hE1.2 x (by omega) id]
          exact hE.2 x hx id
        · rw [List.range_succ, List.map_append, List.map_append]
          exact ho2.same fun b h1 => List.getElem?_set_ne (by have := hb3 b h1; omega)
    · obtain rfl : a = wn xs i := by omega
      simp (maxSteps := 2000000) only [s52, ↓Za, ↓Zk, ↓Zs, ↓Zf, ↓Zn, ↓Zt, ↓Ze, ↓Zj, ↓Zg, ↓Zb, ↓Zc, ↓vdn, vup, Zl, Zh, Zi, Zm, Zo, List.map_cons, List.map_nil, cond_true, cond_false, aop, Zw, Zr, Zp, ev, sput, Zu, Zz, Yb, unK, Zd, Zx, Nat.reduceBEq, Nat.reduceAdd, Int.reduceBEq, Int.reduceBNe, Int.reduceLT, Zv, Ya, tup, tyf, l52_2, Int.lt_irrefl]
      refine hQ2 _ _ _ (hQ _ _ _ ?_)
      simp (maxSteps := 2000000) only [s52, ↓Za, ↓Zk, ↓Zs, ↓Zf, ↓Zn, ↓Zt, ↓Ze, ↓Zj, ↓Zg, ↓Zb, ↓Zc, ↓vdn, vup, Zl, Zh, Zi, Zm, Zo, List.map_cons, List.map_nil, cond_true, cond_false, aop, Zw, Zr, Zp, ev, sput, Zu, Zz, Yb, unK, Zd, Zx, Nat.reduceBEq, Nat.reduceAdd, Int.reduceBEq, Int.reduceBNe, Int.reduceLT, Zv, Ya, tup, tyf, if_true]
      refine hN _ _ ?_
      simp (maxSteps := 2000000) only [s52, ↓Za, ↓Zk, ↓Zs, ↓Zf, ↓Zn, ↓Zt, ↓Ze, ↓Zj, ↓Zg, ↓Zb, ↓Zc, ↓vdn, vup, Zl, Zh, Zi, Zm, Zo, List.map_cons, List.map_nil, cond_true, cond_false, aop, Zw, Zr, Zp, ev, sput, Zu, Zz, Yb, unK, Zd, Zx, Nat.reduceBEq, Nat.reduceAdd, Int.reduceBEq, Int.reduceBNe, Int.reduceLT, Zv, Ya, tup, tyf]
      rw [if_pos hw]
      exact ⟨hE, h.length, rfl, nv, by rw [nearL_len]; exact hc, ho.val⟩
end Go.Proofs.Tryd.Am

namespace Go.Proofs.Tryd.Am
open Go.Am Sr
set_option maxRecDepth 100000
set_option maxHeartbeats 1000000

theorem getD_vu {nr : List Nat} {v : Nat} (hv : v < nr.length) : (nr.map fun x => vu x).getD v undef = vu (nb nr v) := by
  simp [nb, List.getD, List.getElem?_eq_getElem hv]
theorem p64 : (2 : Nat) ^ 64 = 18446744073709551616 := by decide
theorem lt64 {nr : List Nat} (g : Gr nr) {s : Nat} (hs : s < 2 ^ nr.length) : s < 18446744073709551616 := by
  rw [← p64]; exact Nat.lt_of_lt_of_le hs (Nat.pow_le_pow_right (by decide) g.len)
theorem nb64 {nr : List Nat} (g : Gr nr) (v : Nat) : nb nr v < 18446744073709551616 := lt64 g (g.lt v)
theorem bit64 {v : Nat} (h : v < 64) : 2 ^ v < 18446744073709551616 := by
  rw [← p64]; exact Nat.pow_lt_pow_right (by decide) h
theorem cutU {nr : List Nat} (g : Gr nr) {s v : Nat} (hs : s < 2 ^ nr.length) (hv : v < 64) : Wk .andNot .u64 ((less s (nb nr v) : Nat) : Int) ((2 ^ v : Nat) : Int) = ((cut nr s v : Nat) : Int) := by
  rw [lessU (lt64 g (less_lt hs)) (bit64 hv)]; rfl
theorem bits_head {r : Nat} (hr : r < 18446744073709551616) (h0 : r ≠ 0) : r.testBit (Lib.ctz 64 r) = true := by
  have h := bits_stepU r hr h0
  have : Lib.ctz 64 r ∈ Am.bits r := by rw [h]; exact List.mem_cons_self ..
  exact (List.mem_filter.1 this).2
theorem sub_pred {r t : Nat} (h : ∀ i, r.testBit i = true → t.testBit i = true) (i : Nat) : (r &&& (r - 1)).testBit i = true → t.testBit i = true := by
  rw [Nat.testBit_and, Bool.and_eq_true]; exact fun h2 => h i h2.1

def pickI (nr : List Nat) (t r : Nat) (p d : Int) : Prop := (p = -1 ∧ d = -1 ∧ r = t) ∨ ∃ v : Nat, p = v ∧ t.testBit v = true ∧ d = ((Am.bits (nb nr v &&& t)).length : Nat) ∧ 1 < (Am.bits (nb nr v &&& t)).length

theorem most_call [BitTab prog 0] {h : Yd} {b : Nat} {nr : List Nat} (w : WO h b nr) (g : Gr nr) : ∀ s, s < 2 ^ nr.length → APure prog 53 [pt b, vu s] h (Zy (A nr s : Nat)) := by
  intro s
  induction s using Nat.strongRecOn with
  | _ s ih =>
    intro hs
    obtain ⟨nv, hc, hv⟩ := w
    have ldn : ∀ {K : Value → Prop}, Xt prog h 60 (.pointer (some ⟨b, 1, none⟩)) K = K nv := fun {K} => loadC (o := 1) hc shp_60 rfl
    have ix : ∀ v, v < nr.length → ∀ {K : Value → Prop}, Xf prog 60 nv (Zy v) K = K (Wo nv 1 v) := fun v h1 {K} => hv.idx el_60 esz_63 (by rw [List.length_map]; exact h1) K
    have ld : ∀ v, v < nr.length → ∀ {K : Value → Prop}, Xt prog h 63 (Wo nv 1 v) K = K (vu (nb nr v)) := fun v h1 {K} => by
      rw [hv.load shp_63 (by rw [List.length_map]; exact h1), getD_vu h1]
    refine s53_call (by simp) ?_
    simp (maxSteps := 2000000) only [s53, ↓Za, ↓Zk, ↓Zs, ↓Zf, ↓Zn, ↓Zt, ↓Ze, ↓Zj, ↓Zg, ↓Zb, ↓Zc, ↓vdn, vup, Zl, Zh, Zi, Zm, Zo, List.map_cons, List.map_nil, cond_true, cond_false, aop, Zw, Zr, Zp, ev, sput, Zu, Zz, Yb, unK, Zd, Zx, Nat.reduceBEq, Nat.reduceAdd, Int.reduceBEq, Int.reduceBNe, Int.reduceLT, Zv, Ya, tup, tyf, ↓Xd]
    refine Yh fun Q hQ => ?_
    refine Xs (γ := Nat × Nat) (fun a => a.1 ≤ s ∧ a.1 < 2 ^ nr.length ∧ a.2 + A nr a.1 = A nr s)
      (fun a => ([(0, pt b), (1, vu a.1), (4, .int .i64 0), (5, Zy a.2)], h)) (fun a => a.1) (s, 0) ⟨Nat.le_refl _, hs, Nat.zero_add _⟩ (by simp (maxSteps := 2000000) only [↓Za, ↓Zk, ↓Zs, ↓Zf, ↓Zn, ↓Zt, ↓Ze, ↓Zj, ↓Zg, ↓Zb, ↓Zc, ↓vdn, vup, Zl, Zh, Zi, Zm, Zo, List.map_cons, List.map_nil, cond_true, cond_false, aop, Zw, Zr, Zp, ev, sput, Zu, Zz, Yb, unK, Zd, Zx, Nat.reduceBEq, Nat.reduceAdd, Int.reduceBEq, Int.reduceBNe, Int.reduceLT, Zv, Ya, tup, tyf, Int.natCast_zero]) rfl ?_
    rintro ⟨t, o⟩ ⟨h1, h2, h3⟩
    simp only at h1 h2 h3
    have hA := A_le nr s
    refine Yh fun Q2 hQ2 => ?_
    simp only [l53_1]
    refine Yc fun N hN => ?_
    by_cases t0 : t = 0
    · subst t0
      rw [A_zero] at h3
      simp (maxSteps := 2000000) only [s53, ↓Za, ↓Zk, ↓Zs, ↓Zf, ↓Zn, ↓Zt, ↓Ze, ↓Zj, ↓Zg, ↓Zb, ↓Zc, ↓vdn, vup, Zl, Zh, Zi, Zm, Zo, List.map_cons, List.map_nil, cond_true, cond_false, aop, Zw, Zr, Zp, ev, sput, Zu, Zz, Yb, unK, Zd, Zx, Nat.reduceBEq, Nat.reduceAdd, Int.reduceBEq, Int.reduceBNe, Int.reduceLT, Zv, Ya, tup, tyf, ofNe, ne_eq, not_true_eq_false, decide_false]
      refine hQ2 _ _ _ (hQ _ _ _ ?_)
      simp (maxSteps := 2000000) only [s53, ↓Za, ↓Zk, ↓Zs, ↓Zf, ↓Zn, ↓Zt, ↓Ze, ↓Zj, ↓Zg, ↓Zb, ↓Zc, ↓vdn, vup, Zl, Zh, Zi, Zm, Zo, List.map_cons, List.map_nil, cond_true, cond_false, aop, Zw, Zr, Zp, ev, sput, Zu, Zz, Yb, unK, Zd, Zx, Nat.reduceBEq, Nat.reduceAdd, Int.reduceBEq, Int.reduceBNe, Int.reduceLT, Zv, Ya, tup, tyf, if_true]
      rw [← h3, Nat.add_zero]
    simp (maxSteps := 2000000) only [s53, ↓Za, ↓Zk, ↓Zs, ↓Zf, ↓Zn, ↓Zt, ↓Ze, ↓Zj, ↓Zg, ↓Zb, ↓Zc, ↓vdn, vup, Zl, Zh, Zi, Zm, Zo, List.map_cons, List.map_nil, cond_true, cond_false, aop, Zw, Zr, Zp, ev, sput, Zu, Zz, Yb, unK, Zd, Zx, Nat.reduceBEq, Nat.reduceAdd, Int.reduceBEq, Int.reduceBNe, Int.reduceLT, Zv, Ya, tup, tyf, ofNe, ne_eq, t0, not_false_eq_true, decide_true]
    refine hN [(0, pt b), (1, vu t), (4, .int .i64 0), (5, Zy o)] _ _ ?_ (by simp (maxSteps := 2000000) only [↓Za, ↓Zk, ↓Zs, ↓Zf, ↓Zn, ↓Zt, ↓Ze, ↓Zj, ↓Zg, ↓Zb, ↓Zc, ↓vdn, vup, Zl, Zh, Zi, Zm, Zo, List.map_cons, List.map_nil, cond_true, cond_false, aop, Zw, Zr, Zp, ev, sput, Zu, Zz, Yb, unK, Zd, Zx, Nat.reduceBEq, Nat.reduceAdd, Int.reduceBEq, Int.reduceBNe, Int.reduceLT, Zv, Ya, tup, tyf])
    clear hN N
    have ht := lt64 g h2
    refine Yo ?_
    refine Yc fun N hN => ?_
    simp (maxSteps := 2000000) only [s53, ↓Za, ↓Zk, ↓Zs, ↓Zf, ↓Zn, ↓Zt, ↓Ze, ↓Zj, ↓Zg, ↓Zb, ↓Zc, ↓vdn, vup, Zl, Zh, Zi, Zm, Zo, List.map_cons, List.map_nil, cond_true, cond_false, aop, Zw, Zr, Zp, ev, sput, Zu, Zz, Yb, unK, Zd, Zx, Nat.reduceBEq, Nat.reduceAdd, Int.reduceBEq, Int.reduceBNe, Int.reduceLT, Zv, Ya, tup, tyf]
    refine hN [(0, pt b), (1, vu t), (4, .int .i64 0), (5, Zy o), (6, .int .i64 (-1)), (7, .int .i64 (-1))] _ _ ?_ (by simp (maxSteps := 2000000) only [↓Za, ↓Zk, ↓Zs, ↓Zf, ↓Zn, ↓Zt, ↓Ze, ↓Zj, ↓Zg, ↓Zb, ↓Zc, ↓vdn, vup, Zl, Zh, Zi, Zm, Zo, List.map_cons, List.map_nil, cond_true, cond_false, aop, Zw, Zr, Zp, ev, sput, Zu, Zz, Yb, unK, Zd, Zx, Nat.reduceBEq, Nat.reduceAdd, Int.reduceBEq, Int.reduceBNe, Int.reduceLT, Zv, Ya, tup, tyf])
    clear hN N
    refine Yc fun N hN => ?_
    have go : ∀ v d, t.testBit v = true → d = (Am.bits (nb nr v &&& t)).length → ∀ e, ELe e [(0, pt b), (1, vu t), (4, .int .i64 0), (5, Zy o), (6, Zy v), (7, Zy d)] → N e h := by
      intro v d hb hd e he
      refine hN [(0, pt b), (1, vu t), (4, .int .i64 0), (5, Zy o), (6, Zy v), (7, Zy d)] _ _ ?_ he
      clear hN N he e
      have hvl := bit_lt h2 hb
      have hv64 : v < 64 := Nat.lt_of_lt_of_le hvl g.len
      have hnn : (0 : Int) ≤ (v : Int) := Int.natCast_nonneg _
      refine Yc fun N hN => ?_
      by_cases hd1 : (1 : Int) < (d : Int)
      · simp (maxSteps := 2000000) only [s53, ↓Za, ↓Zk, ↓Zs, ↓Zf, ↓Zn, ↓Zt, ↓Ze, ↓Zj, ↓Zg, ↓Zb, ↓Zc, ↓vdn, vup, Zl, Zh, Zi, Zm, Zo, List.map_cons, List.map_nil, cond_true, cond_false, aop, Zw, Zr, Zp, ev, sput, Zu, Zz, Yb, unK, Zd, Zx, Nat.reduceBEq, Nat.reduceAdd, Int.reduceBEq, Int.reduceBNe, Int.reduceLT, Zv, Ya, tup, tyf, gt_iff_lt, hd1]
        have l1 := cut_less g hb
        have l2 := less_bit_lt hb
        have hp := A_pivot g (Nat.lt_of_lt_of_le h2 (Nat.pow_le_pow_right (by decide) g.len)) hb
        refine Wc [(14, 1), (21, 1)] (by kernel_rfl) (by kernel_rfl) (by kernel_rfl) (by kernel_rfl) ?_
        simp (maxSteps := 2000000) only [s53, ↓Za, ↓Zk, ↓Zs, ↓Zf, ↓Zn, ↓Zt, ↓Ze, ↓Zj, ↓Zg, ↓Zb, ↓Zc, ↓vdn, vup, Zl, Zh, Zi, Zm, Zo, List.map_cons, List.map_nil, cond_true, cond_false, aop, Zw, Zr, Zp, ev, sput, Zu, Zz, Yb, unK, Zd, Zx, Nat.reduceBEq, Nat.reduceAdd, Int.reduceBEq, Int.reduceBNe, Int.reduceLT, Zv, Ya, tup, tyf, nilK, fldA fld_62_1 esz_60, ldn, ix v hvl, ld v hvl, hnn, shlU1 hv64, lessU ht (nb64 g v), cutU g h2 hv64, lessU ht (bit64 hv64), Yy, List.nil_append, List.append_nil, List.toList_toArray, List.cons_append]
        refine ⟨_, _, ih (cut nr t v) (by omega) (cut_lt h2), rfl, ?_⟩
        have a1 := A_le nr (cut nr t v)
        have a2 := A_le nr (less t (2 ^ v))
        have e1 : addV .i64 1 ((A nr (cut nr t v) : Nat) : Int) = ((1 + A nr (cut nr t v) : Nat) : Int) := by rw [addV_id (by omega) (by omega)]; omega
        simp (maxSteps := 2000000) only [s53, ↓Za, ↓Zk, ↓Zs, ↓Zf, ↓Zn, ↓Zt, ↓Ze, ↓Zj, ↓Zg, ↓Zb, ↓Zc, ↓vdn, vup, Zl, Zh, Zi, Zm, Zo, List.map_cons, List.map_nil, cond_true, cond_false, aop, Zw, Zr, Zp, ev, sput, Zu, Zz, Yb, unK, Zd, Zx, Nat.reduceBEq, Nat.reduceAdd, Int.reduceBEq, Int.reduceBNe, Int.reduceLT, Zv, Ya, tup, tyf, e1, hnn, shlU1 hv64, lessU ht (bit64 hv64), Yy, List.nil_append, List.append_nil, List.toList_toArray, List.cons_append]
        refine ⟨_, _, ih (less t (2 ^ v)) (by omega) (less_lt h2), rfl, ?_⟩
        by_cases hm : ((1 + A nr (cut nr t v) : Nat) : Int) < ((A nr (less t (2 ^ v)) : Nat) : Int)
        · have e2 : addV .i64 ((o : Nat) : Int) ((A nr (less t (2 ^ v)) : Nat) : Int) = ((A nr s : Nat) : Int) := by rw [addV_id (by omega) (by omega)]; omega
          simp (maxSteps := 2000000) only [s53, ↓Za, ↓Zk, ↓Zs, ↓Zf, ↓Zn, ↓Zt, ↓Ze, ↓Zj, ↓Zg, ↓Zb, ↓Zc, ↓vdn, vup, Zl, Zh, Zi, Zm, Zo, List.map_cons, List.map_nil, cond_true, cond_false, aop, Zw, Zr, Zp, ev, sput, Zu, Zz, Yb, unK, Zd, Zx, Nat.reduceBEq, Nat.reduceAdd, Int.reduceBEq, Int.reduceBNe, Int.reduceLT, Zv, Ya, tup, tyf, mmK, if_true, gt_iff_lt, hm, e2]
          refine hQ2 _ _ _ (hQ _ _ _ ?_)
          simp (maxSteps := 2000000) only [↓Za, ↓Zk, ↓Zs, ↓Zf, ↓Zn, ↓Zt, ↓Ze, ↓Zj, ↓Zg, ↓Zb, ↓Zc, ↓vdn, vup, Zl, Zh, Zi, Zm, Zo, List.map_cons, List.map_nil, cond_true, cond_false, aop, Zw, Zr, Zp, ev, sput, Zu, Zz, Yb, unK, Zd, Zx, Nat.reduceBEq, Nat.reduceAdd, Int.reduceBEq, Int.reduceBNe, Int.reduceLT, Zv, Ya, tup, tyf]
        · have e2 : addV .i64 ((o : Nat) : Int) ((1 + A nr (cut nr t v) : Nat) : Int) = ((A nr s : Nat) : Int) := by rw [addV_id (by omega) (by omega)]; omega
          simp (maxSteps := 2000000) only [s53, ↓Za, ↓Zk, ↓Zs, ↓Zf, ↓Zn, ↓Zt, ↓Ze, ↓Zj, ↓Zg, ↓Zb, ↓Zc, ↓vdn, vup, Zl, Zh, Zi, Zm, Zo, List.map_cons, List.map_nil, cond_true, cond_false, aop, Zw, Zr, Zp, ev, sput, Zu, Zz, Yb, unK, Zd, Zx, Nat.reduceBEq, Nat.reduceAdd, Int.reduceBEq, Int.reduceBNe, Int.reduceLT, Zv, Ya, tup, tyf, mmK, if_true, if_false, gt_iff_lt, hm, e2]
          refine hQ2 _ _ _ (hQ _ _ _ ?_)
          simp (maxSteps := 2000000) only [↓Za, ↓Zk, ↓Zs, ↓Zf, ↓Zn, ↓Zt, ↓Ze, ↓Zj, ↓Zg, ↓Zb, ↓Zc, ↓vdn, vup, Zl, Zh, Zi, Zm, Zo, List.map_cons, List.map_nil, cond_true, cond_false, aop, Zw, Zr, Zp, ev, sput, Zu, Zz, Yb, unK, Zd, Zx, Nat.reduceBEq, Nat.reduceAdd, Int.reduceBEq, Int.reduceBNe, Int.reduceLT, Zv, Ya, tup, tyf]
      · have hp := A_one g (Nat.lt_of_lt_of_le h2 (Nat.pow_le_pow_right (by decide) g.len)) hb (by omega)
        have hlt := cut_less g hb
        simp (maxSteps := 2000000) only [s53, ↓Za, ↓Zk, ↓Zs, ↓Zf, ↓Zn, ↓Zt, ↓Ze, ↓Zj, ↓Zg, ↓Zb, ↓Zc, ↓vdn, vup, Zl, Zh, Zi, Zm, Zo, List.map_cons, List.map_nil, cond_true, cond_false, aop, Zw, Zr, Zp, ev, sput, Zu, Zz, Yb, unK, Zd, Zx, Nat.reduceBEq, Nat.reduceAdd, Int.reduceBEq, Int.reduceBNe, Int.reduceLT, Zv, Ya, tup, tyf, gt_iff_lt, hd1]
        refine hN [(0, pt b), (1, vu t), (4, .int .i64 0), (5, Zy o), (6, Zy v)] _ _ ?_ (by simp (maxSteps := 2000000) only [↓Za, ↓Zk, ↓Zs, ↓Zf, ↓Zn, ↓Zt, ↓Ze, ↓Zj, ↓Zg, ↓Zb, ↓Zc, ↓vdn, vup, Zl, Zh, Zi, Zm, Zo, List.map_cons, List.map_nil, cond_true, cond_false, aop, Zw, Zr, Zp, ev, sput, Zu, Zz, Yb, unK, Zd, Zx, Nat.reduceBEq, Nat.reduceAdd, Int.reduceBEq, Int.reduceBNe, Int.reduceLT, Zv, Ya, tup, tyf])
        clear hN N
        refine Yc fun N hN => ?_
        simp (maxSteps := 2000000) only [s53, ↓Za, ↓Zk, ↓Zs, ↓Zf, ↓Zn, ↓Zt, ↓Ze, ↓Zj, ↓Zg, ↓Zb, ↓Zc, ↓vdn, vup, Zl, Zh, Zi, Zm, Zo, List.map_cons, List.map_nil, cond_true, cond_false, aop, Zw, Zr, Zp, ev, sput, Zu, Zz, Yb, unK, Zd, Zx, Nat.reduceBEq, Nat.reduceAdd, Int.reduceBEq, Int.reduceBNe, Int.reduceLT, Zv, Ya, tup, tyf, add1 (show o < 9223372036854775807 by omega)]
        refine hN [(0, pt b), (1, vu t), (4, .int .i64 0), (5, Zy (o + 1 : Nat)), (6, Zy v)] _ _ ?_ (by simp (maxSteps := 2000000) only [↓Za, ↓Zk, ↓Zs, ↓Zf, ↓Zn, ↓Zt, ↓Ze, ↓Zj, ↓Zg, ↓Zb, ↓Zc, ↓vdn, vup, Zl, Zh, Zi, Zm, Zo, List.map_cons, List.map_nil, cond_true, cond_false, aop, Zw, Zr, Zp, ev, sput, Zu, Zz, Yb, unK, Zd, Zx, Nat.reduceBEq, Nat.reduceAdd, Int.reduceBEq, Int.reduceBNe, Int.reduceLT, Zv, Ya, tup, tyf])
        clear hN N
        refine Yf ?_
        have hor : Wk .or .u64 ((nb nr v : Nat) : Int) ((2 ^ v : Nat) : Int) = ((nb nr v ||| 2 ^ v : Nat) : Int) := orU (nb64 g v) (bit64 hv64)
        have hls : Wk .andNot .u64 (t : Int) ((nb nr v ||| 2 ^ v : Nat) : Int) = ((cut nr t v : Nat) : Int) := by
          rw [lessU ht (by rw [← p64]; exact Nat.or_lt_two_pow (by rw [p64]; exact nb64 g v) (by rw [p64]; exact bit64 hv64)), cut_or]
        refine aw_draw [] (by kernel_rfl) (by kernel_rfl) (by kernel_rfl) ?_
        simp (maxSteps := 2000000) only [s53, ↓Za, ↓Zk, ↓Zs, ↓Zf, ↓Zn, ↓Zt, ↓Ze, ↓Zj, ↓Zg, ↓Zb, ↓Zc, ↓vdn, vup, Zl, Zh, Zi, Zm, Zo, List.map_cons, List.map_nil, cond_true, cond_false, aop, Zw, Zr, Zp, ev, sput, Zu, Zz, Yb, unK, Zd, Zx, Nat.reduceBEq, Nat.reduceAdd, Int.reduceBEq, Int.reduceBNe, Int.reduceLT, Zv, Ya, tup, tyf, nilK, fldA fld_62_1 esz_60, ldn, ix v hvl, ld v hvl, hnn, shlU1 hv64, hor, hls]
        refine hQ2 _ _ _ ⟨(cut nr t v, o + 1), ⟨by simp only; omega, cut_lt h2, by simp only; omega⟩, hlt, by simp (maxSteps := 2000000) only [↓Za, ↓Zk, ↓Zs, ↓Zf, ↓Zn, ↓Zt, ↓Ze, ↓Zj, ↓Zg, ↓Zb, ↓Zc, ↓vdn, vup, Zl, Zh, Zi, Zm, Zo, List.map_cons, List.map_nil, cond_true, cond_false, aop, Zw, Zr, Zp, ev, sput, Zu, Zz, Yb, unK, Zd, Zx, Nat.reduceBEq, Nat.reduceAdd, Int.reduceBEq, Int.reduceBNe, Int.reduceLT, Zv, Ya, tup, tyf], rfl⟩
    simp (maxSteps := 2000000) only [s53, ↓Za, ↓Zk, ↓Zs, ↓Zf, ↓Zn, ↓Zt, ↓Ze, ↓Zj, ↓Zg, ↓Zb, ↓Zc, ↓vdn, vup, Zl, Zh, Zi, Zm, Zo, List.map_cons, List.map_nil, cond_true, cond_false, aop, Zw, Zr, Zp, ev, sput, Zu, Zz, Yb, unK, Zd, Zx, Nat.reduceBEq, Nat.reduceAdd, Int.reduceBEq, Int.reduceBNe, Int.reduceLT, Zv, Ya, tup, tyf, ↓Xd]
    refine Yh fun Q3 hQ3 => ?_
    refine Wt (γ := Nat × Int × Int) (fun a => a.1 ≤ t ∧ (∀ i, a.1.testBit i = true → t.testBit i = true) ∧ pickI nr t a.1 a.2.1 a.2.2)
      (fun a => ([(0, pt b), (1, vu t), (4, .int .i64 0), (5, Zy o), (6, .int .i64 a.2.1), (7, .int .i64 a.2.2), (8, vu a.1)], h)) (fun a => a.1) (t, -1, -1) ⟨Nat.le_refl _, fun _ h => h, .inl ⟨rfl, rfl, rfl⟩⟩ (by simp (maxSteps := 2000000) only [↓Za, ↓Zk, ↓Zs, ↓Zf, ↓Zn, ↓Zt, ↓Ze, ↓Zj, ↓Zg, ↓Zb, ↓Zc, ↓vdn, vup, Zl, Zh, Zi, Zm, Zo, List.map_cons, List.map_nil, cond_true, cond_false, aop, Zw, Zr, Zp, ev, sput, Zu, Zz, Yb, unK, Zd, Zx, Nat.reduceBEq, Nat.reduceAdd, Int.reduceBEq, Int.reduceBNe, Int.reduceLT, Zv, Ya, tup, tyf]) rfl ?_
    rintro ⟨r, p, d⟩ ⟨hrt, hr, hp⟩
    simp only at hrt hr hp
    refine Wr fun Q4 hQ4 => ?_
    by_cases r0 : r = 0
    · subst r0
      rcases hp with ⟨_, _, h9⟩ | ⟨v, rfl, hb, rfl, h1d⟩
      · exact absurd h9.symm t0
      · simp (maxSteps := 2000000) only [s53, ↓Za, ↓Zk, ↓Zs, ↓Zf, ↓Zn, ↓Zt, ↓Ze, ↓Zj, ↓Zg, ↓Zb, ↓Zc, ↓vdn, vup, Zl, Zh, Zi, Zm, Zo, List.map_cons, List.map_nil, cond_true, cond_false, aop, Zw, Zr, Zp, ev, sput, Zu, Zz, Yb, unK, Zd, Zx, Nat.reduceBEq, Nat.reduceAdd, Int.reduceBEq, Int.reduceBNe, Int.reduceLT, Zv, Ya, tup, tyf, l53_0, ofNe, ne_eq, not_true_eq_false, decide_false]
        exact hQ4 _ _ _ (hQ3 _ _ _ (go v _ hb rfl _ (by simp (maxSteps := 2000000) only [↓Za, ↓Zk, ↓Zs, ↓Zf, ↓Zn, ↓Zt, ↓Ze, ↓Zj, ↓Zg, ↓Zb, ↓Zc, ↓vdn, vup, Zl, Zh, Zi, Zm, Zo, List.map_cons, List.map_nil, cond_true, cond_false, aop, Zw, Zr, Zp, ev, sput, Zu, Zz, Yb, unK, Zd, Zx, Nat.reduceBEq, Nat.reduceAdd, Int.reduceBEq, Int.reduceBNe, Int.reduceLT, Zv, Ya, tup, tyf])))
    have r64 : r < 18446744073709551616 := by omega
    have hb := hr _ (bits_head r64 r0)
    have hlt := and_pred_lt r r0
    have hsb := sub_pred hr
    have htz := tz_call (h := h) r64
    generalize Lib.ctz 64 r = v at hb htz
    have hvl := bit_lt h2 hb
    have hon := ones_call (h := h) (x := nb nr v &&& t) (Nat.lt_of_le_of_lt Nat.and_le_right ht)
    obtain ⟨c, hcd⟩ : ∃ c, c = (Am.bits (nb nr v &&& t)).length := ⟨_, rfl⟩
    rw [← hcd] at hon
    simp (maxSteps := 2000000) only [s53, ↓Za, ↓Zk, ↓Zs, ↓Zf, ↓Zn, ↓Zt, ↓Ze, ↓Zj, ↓Zg, ↓Zb, ↓Zc, ↓vdn, vup, Zl, Zh, Zi, Zm, Zo, List.map_cons, List.map_nil, cond_true, cond_false, aop, Zw, Zr, Zp, ev, sput, Zu, Zz, Yb, unK, Zd, Zx, Nat.reduceBEq, Nat.reduceAdd, Int.reduceBEq, Int.reduceBNe, Int.reduceLT, Zv, Ya, tup, tyf, l53_0, ofNe, ne_eq, r0, not_false_eq_true, decide_true, Yy, List.nil_append, List.append_nil, List.toList_toArray, List.cons_append]
    refine htz.mono ?_
    rintro _ h ⟨rfl, rfl⟩
    simp (maxSteps := 2000000) only [s53, ↓Za, ↓Zk, ↓Zs, ↓Zf, ↓Zn, ↓Zt, ↓Ze, ↓Zj, ↓Zg, ↓Zb, ↓Zc, ↓vdn, vup, Zl, Zh, Zi, Zm, Zo, List.map_cons, List.map_nil, cond_true, cond_false, aop, Zw, Zr, Zp, ev, sput, Zu, Zz, Yb, unK, Zd, Zx, Nat.reduceBEq, Nat.reduceAdd, Int.reduceBEq, Int.reduceBNe, Int.reduceLT, Zv, Ya, tup, tyf, nilK, fldA fld_62_1 esz_60, ldn, ix v hvl, ld v hvl, andU (nb64 g v) ht, Yy, List.nil_append, List.append_nil, List.toList_toArray, List.cons_append]
    refine hon.mono ?_
    rintro _ h ⟨rfl, rfl⟩
    by_cases c1 : (c : Int) ≤ 1
    · simp (maxSteps := 2000000) only [s53, ↓Za, ↓Zk, ↓Zs, ↓Zf, ↓Zn, ↓Zt, ↓Ze, ↓Zj, ↓Zg, ↓Zb, ↓Zc, ↓vdn, vup, Zl, Zh, Zi, Zm, Zo, List.map_cons, List.map_nil, cond_true, cond_false, aop, Zw, Zr, Zp, ev, sput, Zu, Zz, Yb, unK, Zd, Zx, Nat.reduceBEq, Nat.reduceAdd, Int.reduceBEq, Int.reduceBNe, Int.reduceLT, Zv, Ya, tup, tyf, c1]
      exact hQ4 _ _ _ (hQ3 _ _ _ (go v _ hb hcd _ (by simp (maxSteps := 2000000) only [↓Za, ↓Zk, ↓Zs, ↓Zf, ↓Zn, ↓Zt, ↓Ze, ↓Zj, ↓Zg, ↓Zb, ↓Zc, ↓vdn, vup, Zl, Zh, Zi, Zm, Zo, List.map_cons, List.map_nil, cond_true, cond_false, aop, Zw, Zr, Zp, ev, sput, Zu, Zz, Yb, unK, Zd, Zx, Nat.reduceBEq, Nat.reduceAdd, Int.reduceBEq, Int.reduceBNe, Int.reduceLT, Zv, Ya, tup, tyf])))
    · by_cases cd : d < (c : Int)
      · simp (maxSteps := 2000000) only [s53, ↓Za, ↓Zk, ↓Zs, ↓Zf, ↓Zn, ↓Zt, ↓Ze, ↓Zj, ↓Zg, ↓Zb, ↓Zc, ↓vdn, vup, Zl, Zh, Zi, Zm, Zo, List.map_cons, List.map_nil, cond_true, cond_false, aop, Zw, Zr, Zp, ev, sput, Zu, Zz, Yb, unK, Zd, Zx, Nat.reduceBEq, Nat.reduceAdd, Int.reduceBEq, Int.reduceBNe, Int.reduceLT, Zv, Ya, tup, tyf, c1, gt_iff_lt, cd, subU1 (show 1 ≤ r by omega) r64, andU r64 (show r - 1 < 18446744073709551616 by omega)]
        exact hQ4 _ _ _ ⟨(r &&& (r - 1), v, c), ⟨by simp only; omega, hsb, .inr ⟨v, rfl, hb, by rw [← hcd], by omega⟩⟩, hlt, by simp (maxSteps := 2000000) only [↓Za, ↓Zk, ↓Zs, ↓Zf, ↓Zn, ↓Zt, ↓Ze, ↓Zj, ↓Zg, ↓Zb, ↓Zc, ↓vdn, vup, Zl, Zh, Zi, Zm, Zo, List.map_cons, List.map_nil, cond_true, cond_false, aop, Zw, Zr, Zp, ev, sput, Zu, Zz, Yb, unK, Zd, Zx, Nat.reduceBEq, Nat.reduceAdd, Int.reduceBEq, Int.reduceBNe, Int.reduceLT, Zv, Ya, tup, tyf], rfl⟩
      · have hp2 : pickI nr t (r &&& (r - 1)) p d := by
          rcases hp with ⟨_, h8, _⟩ | h9
          · omega
          · exact .inr h9
        simp (maxSteps := 2000000) only [s53, ↓Za, ↓Zk, ↓Zs, ↓Zf, ↓Zn, ↓Zt, ↓Ze, ↓Zj, ↓Zg, ↓Zb, ↓Zc, ↓vdn, vup, Zl, Zh, Zi, Zm, Zo, List.map_cons, List.map_nil, cond_true, cond_false, aop, Zw, Zr, Zp, ev, sput, Zu, Zz, Yb, unK, Zd, Zx, Nat.reduceBEq, Nat.reduceAdd, Int.reduceBEq, Int.reduceBNe, Int.reduceLT, Zv, Ya, tup, tyf, c1, gt_iff_lt, cd, subU1 (show 1 ≤ r by omega) r64, andU r64 (show r - 1 < 18446744073709551616 by omega)]
        exact hQ4 _ _ _ ⟨(r &&& (r - 1), p, d), ⟨by simp only; omega, hsb, hp2⟩, hlt, by simp (maxSteps := 2000000) only [↓Za, ↓Zk, ↓Zs, ↓Zf, ↓Zn, ↓Zt, ↓Ze, ↓Zj, ↓Zg, ↓Zb, ↓Zc, ↓vdn, vup, Zl, Zh, Zi, Zm, Zo, List.map_cons, List.map_nil, cond_true, cond_false, aop, Zw, Zr, Zp, ev, sput, Zu, Zz, Yb, unK, Zd, Zx, Nat.reduceBEq, Nat.reduceAdd, Int.reduceBEq, Int.reduceBNe, Int.reduceLT, Zv, Ya, tup, tyf], rfl⟩
end Go.Proofs.Tryd.Am

namespace Go.Proofs.Tryd.Am
open Go.Am Sr
set_option maxRecDepth 100000
set_option maxHeartbeats 1000000

theorem shrAll {m : Nat} (h : m ≤ 64) : shrV .u64 18446744073709551615 ((64 - m : Nat) : Int) = ((2 ^ m - 1 : Nat) : Int) := by
  have e : ∀ m, m ≤ 64 → 18446744073709551615 / 2 ^ (64 - m) = 2 ^ m - 1 := by decide
  have := shrU' (a := 18446744073709551615) (k := ((64 - m : Nat) : Int)) (y := 64 - m) rfl (by decide)
  rw [e m h] at this; exact this
theorem sub64 {m : Nat} (h : m ≤ 64) : subV .i64 64 (m : Int) = ((64 - m : Nat) : Int) := by rw [subV_id (by omega) (by omega)]; omega
theorem subN1 {n : Nat} (h1 : 1 ≤ n) (h : n < 9223372036854775808) : subV .i64 (n : Int) 1 = ((n - 1 : Nat) : Int) := by rw [subV_id (by omega) (by omega)]; omega
theorem litI1 {h : Yd} {x : Int} (K : Value → Yd → Prop) : Yt prog h 22 1 [(0, Zy x)] K = K (.slice (some ⟨h.length, 0, none⟩) 1 1) (h ++ [.ints [x] 3 false]) := by
  simp only [Yt, Xv, zero_3, Xi, reps, fillL, mkb, Xk, Va, cellsOf, List.length_singleton, Nat.mul_one, Nat.zero_mul, Nat.zero_add]
  exact propext ⟨fun h => h.2.2.2, fun h => ⟨trivial, by decide, by decide, h⟩⟩
def RSI (h hp : Yd) (ov : Value) (xs : List Int) : Prop := OwnSl 3 hp ov xs ∧ Ext (fun _ => False) h hp ∧ ∀ b, Yq ov = some b → h.length ≤ b
theorem RSI.nil (h : Yd) : RSI h h (.slice none 0 0) [] := ⟨.inl ⟨rfl, rfl⟩, Ext.refl _ _, fun b hb => by cases hb⟩
theorem RSI.push {h hp : Yd} {ov : Value} {xs : List Int} (s : RSI h hp ov xs) {x : Int} (hn : xs.length < 1099511627776) {K : Value → Yd → Prop} (hk : ∀ v' h', RSI h h' v' (xs ++ [x]) → K v' h') :
    Yw prog (hp ++ [.ints [x] 3 false]) 22 22 ov (.slice (some ⟨hp.length, 0, none⟩) 1 1) K := by
  obtain ⟨hown, hE, hblk⟩ := s
  have hx1 : Ext (fun _ => False) hp (hp ++ [.ints [x] 3 false]) := Ext.app _ _ _
  refine (hown.ext hx1 fun _ _ => id).append app_22_22 hn (Xp _ _) fun v' h' ho hE' hb => hk v' h' ⟨ho, ?_, fun b hbb => ?_⟩
  · have h1 := hE.1
    have h2 := hx1.1
    have h3 := hE'.1
    refine ⟨by omega, fun i hi _ => ?_⟩
    rw [hE'.2 i (by omega) fun hbb => by have := hblk i hbb; omega, hx1.2 i (by omega) id]
    exact hE.2 i hi id
  · rcases hb with h1 | ⟨b', h1, h2⟩
    · exact hblk b (h1 ▸ hbb)
    · rw [h1] at hbb; cases hbb; have := hE.1; have := hx1.1; omega

def codeR (h' : Yd) (xs : List Int) (k : Int) (r : Value) : Prop :=
  if grs xs = true ∧ 1 ≤ k ∧ k ≤ 3 then (if wn xs k.toNat ≤ 64 then ∃ w, r = .tuple #[w, .int .i64 0] ∧ OwnSl 3 h' w ((codeL (Wm xs k.toNat)).map Int.ofNat) else r = .tuple #[.slice none 0 0, .int .i64 6]) else r = .tuple #[.slice none 0 0, .int .i64 2]

theorem code_loop [BitTab prog 0] {h : Yd} {b : Nat} {nr : List Nat} (w : WO h b nr) (g : Gr nr) {N : Env → Yd → Prop} {Q0 : Exit → Env → Yd → Prop}
    (hN : ∀ hp ov e, RSI h hp ov ((codeL nr).map Int.ofNat) → ELe e [(4, .slice none 0 0), (5, .int .i64 0), (10, ov)] → N e hp) :
    aw prog 81 (.seq q19_9 (.block 0 (.loop l19_0))) (Zw N Q0) [(4, .slice none 0 0), (5, .int .i64 0), (6, pt b), (8, vu (2 ^ nr.length - 1)), (9, Zy (A nr (2 ^ nr.length - 1) : Nat)), (10, .slice none 0 0)] h := by
  have n64 := g.len
  have hnn : ∀ i : Nat, (0 : Int) ≤ (i : Int) := Int.natCast_nonneg
  have w0 := w
  obtain ⟨nv0, hc0, hv0⟩ := w0
  have ldl : ∀ {K : Value → Prop}, Xt prog h 3 (.pointer (some ⟨b, 0, none⟩)) K = K (Zy nr.length) := fun {K} => loadC (o := 0) hc0 Xl rfl
  simp (maxSteps := 2000000) only [s19, ↓Za, ↓Zk, ↓Zs, ↓Zf, ↓Zn, ↓Zt, ↓Ze, ↓Zj, ↓Zg, ↓Zb, ↓Zc, ↓vdn, vup, Zl, Zh, Zi, Zm, Zo, List.map_cons, List.map_nil, cond_true, cond_false, aop, Zw, Zr, Zp, ev, sput, Zu, Zz, Yb, unK, Zd, Zx, Nat.reduceBEq, Nat.reduceAdd, Int.reduceBEq, Int.reduceBNe, Int.reduceLT, Zv, Ya, tup, tyf, nilK, fldA fld_62_0 Xi, ldl, ↓Xd]
  refine Yh fun Q hQ => ?_
  refine Wt (γ := Nat × Value × Yd) (fun s => s.1 ≤ nr.length ∧ RSI h s.2.2 s.2.1 ((cAt nr s.1).2.2.map Int.ofNat))
    (fun s => ([(4, .slice none 0 0), (5, .int .i64 0), (6, pt b), (8, vu (cAt nr s.1).1), (9, Zy ((cAt nr s.1).2.1 : Nat)), (10, s.2.1), (44, Zy nr.length), (45, Zy s.1)], s.2.2)) (fun s => nr.length - s.1) (0, .slice none 0 0, h) ⟨Nat.zero_le _, RSI.nil h⟩ (by simp (maxSteps := 2000000) only [↓Za, ↓Zk, ↓Zs, ↓Zf, ↓Zn, ↓Zt, ↓Ze, ↓Zj, ↓Zg, ↓Zb, ↓Zc, ↓vdn, vup, Zl, Zh, Zi, Zm, Zo, List.map_cons, List.map_nil, cond_true, cond_false, aop, Zw, Zr, Zp, ev, sput, Zu, Zz, Yb, unK, Zd, Zx, Nat.reduceBEq, Nat.reduceAdd, Int.reduceBEq, Int.reduceBNe, Int.reduceLT, Zv, Ya, tup, tyf, Int.natCast_zero, cAt, List.range_zero, List.foldl_nil]) rfl ?_
  rintro ⟨i, ov, hp⟩ ⟨hi, hs⟩
  simp only at hi hs
  refine Wr fun Q2 hQ2 => ?_
  by_cases hin : (i : Int) < nr.length
  · have hi' : i < nr.length := by omega
    obtain ⟨i1, i2, i3⟩ := cAt_inv g i
    have es := cAt_succ nr i
    generalize cAt nr i = c at i1 i2 i3 es hs
    obtain ⟨left, need, out⟩ := c
    simp only at i1 i2 i3 hs
    have hl64 := lt64 g i1
    have hnd := A_le nr left
    rw [← i2] at hnd
    cases hb : left.testBit i with
    | false =>
      have e : cAt nr (i + 1) = (left, need, out) := by rw [es, cStep, if_neg (by simp only [hb]; decide)]
      simp (maxSteps := 2000000) only [s19, ↓Za, ↓Zk, ↓Zs, ↓Zf, ↓Zn, ↓Zt, ↓Ze, ↓Zj, ↓Zg, ↓Zb, ↓Zc, ↓vdn, vup, Zl, Zh, Zi, Zm, Zo, List.map_cons, List.map_nil, cond_true, cond_false, aop, Zw, Zr, Zp, ev, sput, Zu, Zz, Yb, unK, Zd, Zx, Nat.reduceBEq, Nat.reduceAdd, Int.reduceBEq, Int.reduceBNe, Int.reduceLT, Zv, Ya, tup, tyf, l19_0, hin, hnn, testU hl64, hb, beq0, Bool.not_false, Bool.false_eq_true, if_false, add1 (show i < 9223372036854775807 by omega)]
      exact hQ2 _ _ _ ⟨(i + 1, ov, hp), ⟨by simp only; omega, by simp only [e]; exact hs⟩, by simp only; omega, by simp (maxSteps := 2000000) only [↓Za, ↓Zk, ↓Zs, ↓Zf, ↓Zn, ↓Zt, ↓Ze, ↓Zj, ↓Zg, ↓Zb, ↓Zc, ↓vdn, vup, Zl, Zh, Zi, Zm, Zo, List.map_cons, List.map_nil, cond_true, cond_false, aop, Zw, Zr, Zp, ev, sput, Zu, Zz, Yb, unK, Zd, Zx, Nat.reduceBEq, Nat.reduceAdd, Int.reduceBEq, Int.reduceBNe, Int.reduceLT, Zv, Ya, tup, tyf, e], rfl⟩
    | true =>
      obtain ⟨nv, hc, hv⟩ := w.ext hs.2.1
      have ldn : ∀ {K : Value → Prop}, Xt prog hp 60 (.pointer (some ⟨b, 1, none⟩)) K = K nv := fun {K} => loadC (o := 1) hc shp_60 rfl
      have ix : ∀ {K : Value → Prop}, Xf prog 60 nv (Zy i) K = K (Wo nv 1 i) := fun {K} => hv.idx el_60 esz_63 (by rw [List.length_map]; exact hi') K
      have ld : ∀ {K : Value → Prop}, Xt prog hp 63 (Wo nv 1 i) K = K (vu (nb nr i)) := fun {K} => by
        rw [hv.load shp_63 (by rw [List.length_map]; exact hi'), getD_vu hi']
      have hi64 : i < 64 := by omega
      have hcutU : Wk .andNot .u64 ((less left (2 ^ i) : Nat) : Int) ((nb nr i : Nat) : Int) = ((cut nr left i : Nat) : Int) := by
        rw [lessU (lt64 g (less_lt i1)) (nb64 g i), cut_swap]
      have hmo := most_call (w.ext hs.2.1) g (cut nr left i) (cut_lt i1)
      have hp1 := A_pos g (Nat.lt_of_lt_of_le i1 (Nat.pow_le_pow_right (by decide) g.len)) hb
      have a1 := A_le nr (cut nr left i)
      have e1 : addV .i64 1 ((A nr (cut nr left i) : Nat) : Int) = ((1 + A nr (cut nr left i) : Nat) : Int) := by rw [addV_id (by omega) (by omega)]; omega
      simp (maxSteps := 2000000) only [s19, ↓Za, ↓Zk, ↓Zs, ↓Zf, ↓Zn, ↓Zt, ↓Ze, ↓Zj, ↓Zg, ↓Zb, ↓Zc, ↓vdn, vup, Zl, Zh, Zi, Zm, Zo, List.map_cons, List.map_nil, cond_true, cond_false, aop, Zw, Zr, Zp, ev, sput, Zu, Zz, Yb, unK, Zd, Zx, Nat.reduceBEq, Nat.reduceAdd, Int.reduceBEq, Int.reduceBNe, Int.reduceLT, Zv, Ya, tup, tyf, l19_0, hin, hnn, testU hl64, hb, beq0, Bool.not_true, if_true, shlU1 hi64, lessU hl64 (bit64 hi64), nilK, fldA fld_62_1 esz_60, ldn, ix, ld, hcutU, Yy, List.nil_append, List.append_nil, List.toList_toArray, List.cons_append]
      refine hmo.mono ?_
      rintro _ hp ⟨rfl, rfl⟩
      by_cases hq : 1 + A nr (cut nr left i) = need
      · have e : cAt nr (i + 1) = (cut nr left i, need - 1, out ++ [i]) := by rw [es, cStep, if_pos (by exact hb), if_pos (by exact hq)]
        have hq2 : (((1 + A nr (cut nr left i) : Nat) : Int) == ((need : Nat) : Int)) = true := by rw [hq]; exact beq_self_eq_true _
        simp (maxSteps := 2000000) only [s19, ↓Za, ↓Zk, ↓Zs, ↓Zf, ↓Zn, ↓Zt, ↓Ze, ↓Zj, ↓Zg, ↓Zb, ↓Zc, ↓vdn, vup, Zl, Zh, Zi, Zm, Zo, List.map_cons, List.map_nil, cond_true, cond_false, aop, Zw, Zr, Zp, ev, sput, Zu, Zz, Yb, unK, Zd, Zx, Nat.reduceBEq, Nat.reduceAdd, Int.reduceBEq, Int.reduceBNe, Int.reduceLT, Zv, Ya, tup, tyf, e1, hq2, litI1]
        refine hs.push (by rw [List.length_map]; omega) fun v' h' s' => ?_
        simp (maxSteps := 2000000) only [s19, ↓Za, ↓Zk, ↓Zs, ↓Zf, ↓Zn, ↓Zt, ↓Ze, ↓Zj, ↓Zg, ↓Zb, ↓Zc, ↓vdn, vup, Zl, Zh, Zi, Zm, Zo, List.map_cons, List.map_nil, cond_true, cond_false, aop, Zw, Zr, Zp, ev, sput, Zu, Zz, Yb, unK, Zd, Zx, Nat.reduceBEq, Nat.reduceAdd, Int.reduceBEq, Int.reduceBNe, Int.reduceLT, Zv, Ya, tup, tyf, subN1 (show 1 ≤ need by omega) (show need < 9223372036854775808 by omega), add1 (show i < 9223372036854775807 by omega)]
        have em : (out ++ [i]).map Int.ofNat = out.map Int.ofNat ++ [(i : Int)] := by rw [List.map_append]; rfl
        exact hQ2 _ _ _ ⟨(i + 1, v', h'), ⟨by simp only; omega, by simp only [e, em]; exact s'⟩, by simp only; omega, by simp (maxSteps := 2000000) only [↓Za, ↓Zk, ↓Zs, ↓Zf, ↓Zn, ↓Zt, ↓Ze, ↓Zj, ↓Zg, ↓Zb, ↓Zc, ↓vdn, vup, Zl, Zh, Zi, Zm, Zo, List.map_cons, List.map_nil, cond_true, cond_false, aop, Zw, Zr, Zp, ev, sput, Zu, Zz, Yb, unK, Zd, Zx, Nat.reduceBEq, Nat.reduceAdd, Int.reduceBEq, Int.reduceBNe, Int.reduceLT, Zv, Ya, tup, tyf, e], rfl⟩
      · have e : cAt nr (i + 1) = (less left (2 ^ i), need, out) := by rw [es, cStep, if_pos (by exact hb), if_neg (by exact hq)]
        have hq2 : (((1 + A nr (cut nr left i) : Nat) : Int) == ((need : Nat) : Int)) = false := by
          rw [beq_eq_false_iff_ne]; omega
        simp (maxSteps := 2000000) only [s19, ↓Za, ↓Zk, ↓Zs, ↓Zf, ↓Zn, ↓Zt, ↓Ze, ↓Zj, ↓Zg, ↓Zb, ↓Zc, ↓vdn, vup, Zl, Zh, Zi, Zm, Zo, List.map_cons, List.map_nil, cond_true, cond_false, aop, Zw, Zr, Zp, ev, sput, Zu, Zz, Yb, unK, Zd, Zx, Nat.reduceBEq, Nat.reduceAdd, Int.reduceBEq, Int.reduceBNe, Int.reduceLT, Zv, Ya, tup, tyf, e1, hq2, add1 (show i < 9223372036854775807 by omega)]
        exact hQ2 _ _ _ ⟨(i + 1, ov, hp), ⟨by simp only; omega, by simp only [e]; exact hs⟩, by simp only; omega, by simp (maxSteps := 2000000) only [↓Za, ↓Zk, ↓Zs, ↓Zf, ↓Zn, ↓Zt, ↓Ze, ↓Zj, ↓Zg, ↓Zb, ↓Zc, ↓vdn, vup, Zl, Zh, Zi, Zm, Zo, List.map_cons, List.map_nil, cond_true, cond_false, aop, Zw, Zr, Zp, ev, sput, Zu, Zz, Yb, unK, Zd, Zx, Nat.reduceBEq, Nat.reduceAdd, Int.reduceBEq, Int.reduceBNe, Int.reduceLT, Zv, Ya, tup, tyf, e], rfl⟩
  · obtain rfl : i = nr.length := by omega
    simp (maxSteps := 2000000) only [s19, ↓Za, ↓Zk, ↓Zs, ↓Zf, ↓Zn, ↓Zt, ↓Ze, ↓Zj, ↓Zg, ↓Zb, ↓Zc, ↓vdn, vup, Zl, Zh, Zi, Zm, Zo, List.map_cons, List.map_nil, cond_true, cond_false, aop, Zw, Zr, Zp, ev, sput, Zu, Zz, Yb, unK, Zd, Zx, Nat.reduceBEq, Nat.reduceAdd, Int.reduceBEq, Int.reduceBNe, Int.reduceLT, Zv, Ya, tup, tyf, l19_0, Int.lt_irrefl]
    refine hQ2 _ _ _ (hQ _ _ _ ?_)
    simp (maxSteps := 2000000) only [s19, ↓Za, ↓Zk, ↓Zs, ↓Zf, ↓Zn, ↓Zt, ↓Ze, ↓Zj, ↓Zg, ↓Zb, ↓Zc, ↓vdn, vup, Zl, Zh, Zi, Zm, Zo, List.map_cons, List.map_nil, cond_true, cond_false, aop, Zw, Zr, Zp, ev, sput, Zu, Zz, Yb, unK, Zd, Zx, Nat.reduceBEq, Nat.reduceAdd, Int.reduceBEq, Int.reduceBNe, Int.reduceLT, Zv, Ya, tup, tyf, if_true]
    exact hN hp ov _ hs (by simp (maxSteps := 2000000) only [↓Za, ↓Zk, ↓Zs, ↓Zf, ↓Zn, ↓Zt, ↓Ze, ↓Zj, ↓Zg, ↓Zb, ↓Zc, ↓vdn, vup, Zl, Zh, Zi, Zm, Zo, List.map_cons, List.map_nil, cond_true, cond_false, aop, Zw, Zr, Zp, ev, sput, Zu, Zz, Yb, unK, Zd, Zx, Nat.reduceBEq, Nat.reduceAdd, Int.reduceBEq, Int.reduceBNe, Int.reduceLT, Zv, Ya, tup, tyf])

theorem s19_callW [Tabs Tryd.prog] {args : List Value} {h : Yd} {Q : Value → Yd → Prop} (hsz : args.length ≤ 81) (hk : AWS Tryd.prog 81 s19 (Zv Tryd.prog [.tmp 4, .tmp 5] Q) (Zp 0 args) h) : ACall Tryd.prog 19 args h Q :=
  Wb Tryd.func19 rfl (enters_of Tryd.func19 (by kernel_rfl) rfl) rfl rfl (by decide) s19_strip s19_ok hsz hk
theorem code_call [BitTab prog 0] {h : Yd} {v : Value} {xs : List Int} (hv : IntSl h v xs) (hl : xs.length < 9223372036854775808) (hx : ∀ x ∈ xs, -9223372036854775808 ≤ x ∧ x < 9223372036854775808) {k : Int} :
    ACall prog 19 [v, Zy k] h fun r h' => Ext (fun _ => False) h h' ∧ codeR h' xs k r := by
  have hval := valid_call hv hl hx
  refine s19_callW (by simp) ?_
  simp only [s19]
  refine Yc fun N hN => ?_
  simp (maxSteps := 2000000) only [s19, ↓Za, ↓Zk, ↓Zs, ↓Zf, ↓Zn, ↓Zt, ↓Ze, ↓Zj, ↓Zg, ↓Zb, ↓Zc, ↓vdn, vup, Zl, Zh, Zi, Zm, Zo, List.map_cons, List.map_nil, cond_true, cond_false, aop, Zw, Zr, Zp, ev, sput, Zu, Zz, Yb, unK, Zd, Zx, Nat.reduceBEq, Nat.reduceAdd, Int.reduceBEq, Int.reduceBNe, Int.reduceLT, Zv, Ya, tup, tyf]
  refine hN [(0, v), (1, Zy k), (4, .slice none 0 0), (5, .int .i64 0)] _ _ ?_ (by simp (maxSteps := 2000000) only [↓Za, ↓Zk, ↓Zs, ↓Zf, ↓Zn, ↓Zt, ↓Ze, ↓Zj, ↓Zg, ↓Zb, ↓Zc, ↓vdn, vup, Zl, Zh, Zi, Zm, Zo, List.map_cons, List.map_nil, cond_true, cond_false, aop, Zw, Zr, Zp, ev, sput, Zu, Zz, Yb, unK, Zd, Zx, Nat.reduceBEq, Nat.reduceAdd, Int.reduceBEq, Int.reduceBNe, Int.reduceLT, Zv, Ya, tup, tyf])
  clear hN N
  refine Yc fun N hN => ?_
  simp (maxSteps := 2000000) only [s19, ↓Za, ↓Zk, ↓Zs, ↓Zf, ↓Zn, ↓Zt, ↓Ze, ↓Zj, ↓Zg, ↓Zb, ↓Zc, ↓vdn, vup, Zl, Zh, Zi, Zm, Zo, List.map_cons, List.map_nil, cond_true, cond_false, aop, Zw, Zr, Zp, ev, sput, Zu, Zz, Yb, unK, Zd, Zx, Nat.reduceBEq, Nat.reduceAdd, Int.reduceBEq, Int.reduceBNe, Int.reduceLT, Zv, Ya, tup, tyf, Yy, List.nil_append, List.append_nil, List.toList_toArray, List.cons_append]
  refine hval.mono ?_
  rintro _ h ⟨rfl, rfl⟩
  cases hg : grs xs with
  | false =>
    simp (maxSteps := 2000000) only [s19, ↓Za, ↓Zk, ↓Zs, ↓Zf, ↓Zn, ↓Zt, ↓Ze, ↓Zj, ↓Zg, ↓Zb, ↓Zc, ↓vdn, vup, Zl, Zh, Zi, Zm, Zo, List.map_cons, List.map_nil, cond_true, cond_false, aop, Zw, Zr, Zp, ev, sput, Zu, Zz, Yb, unK, Zd, Zx, Nat.reduceBEq, Nat.reduceAdd, Int.reduceBEq, Int.reduceBNe, Int.reduceLT, Zv, Ya, tup, tyf, hg, Bool.not_false]
    exact ⟨Ext.refl _ _, by rw [codeR, if_neg (by rw [hg]; exact fun h => by cases h.1)]⟩
  | true =>
  have g := grs_iff.1 hg
  by_cases k1 : k < 1
  · simp (maxSteps := 2000000) only [s19, ↓Za, ↓Zk, ↓Zs, ↓Zf, ↓Zn, ↓Zt, ↓Ze, ↓Zj, ↓Zg, ↓Zb, ↓Zc, ↓vdn, vup, Zl, Zh, Zi, Zm, Zo, List.map_cons, List.map_nil, cond_true, cond_false, aop, Zw, Zr, Zp, ev, sput, Zu, Zz, Yb, unK, Zd, Zx, Nat.reduceBEq, Nat.reduceAdd, Int.reduceBEq, Int.reduceBNe, Int.reduceLT, Zv, Ya, tup, tyf, hg, Bool.not_true, k1]
    exact ⟨Ext.refl _ _, by rw [codeR, if_neg (by omega)]⟩
  by_cases k3 : 3 < k
  · simp (maxSteps := 2000000) only [s19, ↓Za, ↓Zk, ↓Zs, ↓Zf, ↓Zn, ↓Zt, ↓Ze, ↓Zj, ↓Zg, ↓Zb, ↓Zc, ↓vdn, vup, Zl, Zh, Zi, Zm, Zo, List.map_cons, List.map_nil, cond_true, cond_false, aop, Zw, Zr, Zp, ev, sput, Zu, Zz, Yb, unK, Zd, Zx, Nat.reduceBEq, Nat.reduceAdd, Int.reduceBEq, Int.reduceBNe, Int.reduceLT, Zv, Ya, tup, tyf, hg, Bool.not_true, k1, gt_iff_lt, k3]
    exact ⟨Ext.refl _ _, by rw [codeR, if_neg (by omega)]⟩
  simp (maxSteps := 2000000) only [s19, ↓Za, ↓Zk, ↓Zs, ↓Zf, ↓Zn, ↓Zt, ↓Ze, ↓Zj, ↓Zg, ↓Zb, ↓Zc, ↓vdn, vup, Zl, Zh, Zi, Zm, Zo, List.map_cons, List.map_nil, cond_true, cond_false, aop, Zw, Zr, Zp, ev, sput, Zu, Zz, Yb, unK, Zd, Zx, Nat.reduceBEq, Nat.reduceAdd, Int.reduceBEq, Int.reduceBNe, Int.reduceLT, Zv, Ya, tup, tyf, hg, Bool.not_true, k1, gt_iff_lt, k3]
  obtain ⟨n, rfl⟩ : ∃ n : Nat, k = (n : Int) := ⟨k.toNat, by omega⟩
  refine hN [(0, v), (1, Zy n), (4, .slice none 0 0), (5, .int .i64 0)] _ _ ?_ (by simp (maxSteps := 2000000) only [↓Za, ↓Zk, ↓Zs, ↓Zf, ↓Zn, ↓Zt, ↓Ze, ↓Zj, ↓Zg, ↓Zb, ↓Zc, ↓vdn, vup, Zl, Zh, Zi, Zm, Zo, List.map_cons, List.map_nil, cond_true, cond_false, aop, Zw, Zr, Zp, ev, sput, Zu, Zz, Yb, unK, Zd, Zx, Nat.reduceBEq, Nat.reduceAdd, Int.reduceBEq, Int.reduceBNe, Int.reduceLT, Zv, Ya, tup, tyf])
  clear hN N
  have hcr : ∀ h' r, (if wn xs n ≤ 64 then ∃ w, r = .tuple #[w, .int .i64 0] ∧ OwnSl 3 h' w ((codeL (Wm xs n)).map Int.ofNat) else r = .tuple #[.slice none 0 0, .int .i64 6]) → codeR h' xs n r := fun h' r hr => by
    rw [codeR, if_pos ⟨hg, by omega, by omega⟩]; exact hr
  refine Yc fun N hN => ?_
  simp (maxSteps := 2000000) only [s19, ↓Za, ↓Zk, ↓Zs, ↓Zf, ↓Zn, ↓Zt, ↓Ze, ↓Zj, ↓Zg, ↓Zb, ↓Zc, ↓vdn, vup, Zl, Zh, Zi, Zm, Zo, List.map_cons, List.map_nil, cond_true, cond_false, aop, Zw, Zr, Zp, ev, sput, Zu, Zz, Yb, unK, Zd, Zx, Nat.reduceBEq, Nat.reduceAdd, Int.reduceBEq, Int.reduceBNe, Int.reduceLT, Zv, Ya, tup, tyf, Yy, List.nil_append, List.append_nil, List.toList_toArray, List.cons_append]
  refine (words_call hv g (show n ≤ 6 by omega)).mono ?_
  rintro r h1 ⟨hE, hr⟩
  by_cases hw : wn xs n ≤ 64
  · rw [if_pos hw] at hr
    obtain ⟨b, rfl, w⟩ := hr
    have gr := nearL_gr g hw
    simp (maxSteps := 2000000) only [s19, ↓Za, ↓Zk, ↓Zs, ↓Zf, ↓Zn, ↓Zt, ↓Ze, ↓Zj, ↓Zg, ↓Zb, ↓Zc, ↓vdn, vup, Zl, Zh, Zi, Zm, Zo, List.map_cons, List.map_nil, cond_true, cond_false, aop, Zw, Zr, Zp, ev, sput, Zu, Zz, Yb, unK, Zd, Zx, Nat.reduceBEq, Nat.reduceAdd, Int.reduceBEq, Int.reduceBNe, Int.reduceLT, Zv, Ya, tup, tyf]
    refine hN [(0, v), (1, Zy n), (4, .slice none 0 0), (5, .int .i64 0), (6, pt b), (7, .bool true)] _ _ ?_ (by simp (maxSteps := 2000000) only [↓Za, ↓Zk, ↓Zs, ↓Zf, ↓Zn, ↓Zt, ↓Ze, ↓Zj, ↓Zg, ↓Zb, ↓Zc, ↓vdn, vup, Zl, Zh, Zi, Zm, Zo, List.map_cons, List.map_nil, cond_true, cond_false, aop, Zw, Zr, Zp, ev, sput, Zu, Zz, Yb, unK, Zd, Zx, Nat.reduceBEq, Nat.reduceAdd, Int.reduceBEq, Int.reduceBNe, Int.reduceLT, Zv, Ya, tup, tyf])
    clear hN N
    refine Yc fun N hN => ?_
    simp (maxSteps := 2000000) only [s19, ↓Za, ↓Zk, ↓Zs, ↓Zf, ↓Zn, ↓Zt, ↓Ze, ↓Zj, ↓Zg, ↓Zb, ↓Zc, ↓vdn, vup, Zl, Zh, Zi, Zm, Zo, List.map_cons, List.map_nil, cond_true, cond_false, aop, Zw, Zr, Zp, ev, sput, Zu, Zz, Yb, unK, Zd, Zx, Nat.reduceBEq, Nat.reduceAdd, Int.reduceBEq, Int.reduceBNe, Int.reduceLT, Zv, Ya, tup, tyf, Bool.not_true]
    refine hN [(0, v), (1, Zy n), (4, .slice none 0 0), (5, .int .i64 0), (6, pt b)] _ _ ?_ (by simp (maxSteps := 2000000) only [↓Za, ↓Zk, ↓Zs, ↓Zf, ↓Zn, ↓Zt, ↓Ze, ↓Zj, ↓Zg, ↓Zb, ↓Zc, ↓vdn, vup, Zl, Zh, Zi, Zm, Zo, List.map_cons, List.map_nil, cond_true, cond_false, aop, Zw, Zr, Zp, ev, sput, Zu, Zz, Yb, unK, Zd, Zx, Nat.reduceBEq, Nat.reduceAdd, Int.reduceBEq, Int.reduceBNe, Int.reduceLT, Zv, Ya, tup, tyf])
    clear hN N
    have w0 := w
    obtain ⟨nv0, hc0, hv0⟩ := w0
    have ldl : ∀ {K : Value → Prop}, Xt prog h1 3 (.pointer (some ⟨b, 0, none⟩)) K = K (Zy (Wm xs n).length) := fun {K} => loadC (o := 0) hc0 Xl rfl
    refine Yc fun N hN => ?_
    have n64 := gr.len
    have hnn : (0 : Int) ≤ ((64 - (Wm xs n).length : Nat) : Int) := Int.natCast_nonneg _
    simp (maxSteps := 2000000) only [s19, ↓Za, ↓Zk, ↓Zs, ↓Zf, ↓Zn, ↓Zt, ↓Ze, ↓Zj, ↓Zg, ↓Zb, ↓Zc, ↓vdn, vup, Zl, Zh, Zi, Zm, Zo, List.map_cons, List.map_nil, cond_true, cond_false, aop, Zw, Zr, Zp, ev, sput, Zu, Zz, Yb, unK, Zd, Zx, Nat.reduceBEq, Nat.reduceAdd, Int.reduceBEq, Int.reduceBNe, Int.reduceLT, Zv, Ya, tup, tyf, nilK, fldA fld_62_0 Xi, ldl, sub64 n64, hnn, shrAll n64]
    refine hN [(4, .slice none 0 0), (5, .int .i64 0), (6, pt b), (8, vu (2 ^ (Wm xs n).length - 1))] _ _ ?_ (by simp (maxSteps := 2000000) only [↓Za, ↓Zk, ↓Zs, ↓Zf, ↓Zn, ↓Zt, ↓Ze, ↓Zj, ↓Zg, ↓Zb, ↓Zc, ↓vdn, vup, Zl, Zh, Zi, Zm, Zo, List.map_cons, List.map_nil, cond_true, cond_false, aop, Zw, Zr, Zp, ev, sput, Zu, Zz, Yb, unK, Zd, Zx, Nat.reduceBEq, Nat.reduceAdd, Int.reduceBEq, Int.reduceBNe, Int.reduceLT, Zv, Ya, tup, tyf])
    clear hN N
    refine Yc fun N hN => ?_
    simp (maxSteps := 2000000) only [s19, ↓Za, ↓Zk, ↓Zs, ↓Zf, ↓Zn, ↓Zt, ↓Ze, ↓Zj, ↓Zg, ↓Zb, ↓Zc, ↓vdn, vup, Zl, Zh, Zi, Zm, Zo, List.map_cons, List.map_nil, cond_true, cond_false, aop, Zw, Zr, Zp, ev, sput, Zu, Zz, Yb, unK, Zd, Zx, Nat.reduceBEq, Nat.reduceAdd, Int.reduceBEq, Int.reduceBNe, Int.reduceLT, Zv, Ya, tup, tyf, Yy, List.nil_append, List.append_nil, List.toList_toArray, List.cons_append]
    refine (most_call w gr (2 ^ (Wm xs n).length - 1) (by have := Nat.two_pow_pos (Wm xs n).length; omega)).mono ?_
    rintro _ h1 ⟨rfl, rfl⟩
    refine hN [(4, .slice none 0 0), (5, .int .i64 0), (6, pt b), (8, vu (2 ^ (Wm xs n).length - 1)), (9, Zy (A (Wm xs n) (2 ^ (Wm xs n).length - 1) : Nat))] _ _ ?_ (by simp (maxSteps := 2000000) only [↓Za, ↓Zk, ↓Zs, ↓Zf, ↓Zn, ↓Zt, ↓Ze, ↓Zj, ↓Zg, ↓Zb, ↓Zc, ↓vdn, vup, Zl, Zh, Zi, Zm, Zo, List.map_cons, List.map_nil, cond_true, cond_false, aop, Zw, Zr, Zp, ev, sput, Zu, Zz, Yb, unK, Zd, Zx, Nat.reduceBEq, Nat.reduceAdd, Int.reduceBEq, Int.reduceBNe, Int.reduceLT, Zv, Ya, tup, tyf])
    clear hN N
    refine Yc fun N hN => ?_
    simp (maxSteps := 2000000) only [s19, ↓Za, ↓Zk, ↓Zs, ↓Zf, ↓Zn, ↓Zt, ↓Ze, ↓Zj, ↓Zg, ↓Zb, ↓Zc, ↓vdn, vup, Zl, Zh, Zi, Zm, Zo, List.map_cons, List.map_nil, cond_true, cond_false, aop, Zw, Zr, Zp, ev, sput, Zu, Zz, Yb, unK, Zd, Zx, Nat.reduceBEq, Nat.reduceAdd, Int.reduceBEq, Int.reduceBNe, Int.reduceLT, Zv, Ya, tup, tyf]
    refine hN [(4, .slice none 0 0), (5, .int .i64 0), (6, pt b), (8, vu (2 ^ (Wm xs n).length - 1)), (9, Zy (A (Wm xs n) (2 ^ (Wm xs n).length - 1) : Nat)), (10, .slice none 0 0)] _ _ ?_ (by simp (maxSteps := 2000000) only [↓Za, ↓Zk, ↓Zs, ↓Zf, ↓Zn, ↓Zt, ↓Ze, ↓Zj, ↓Zg, ↓Zb, ↓Zc, ↓vdn, vup, Zl, Zh, Zi, Zm, Zo, List.map_cons, List.map_nil, cond_true, cond_false, aop, Zw, Zr, Zp, ev, sput, Zu, Zz, Yb, unK, Zd, Zx, Nat.reduceBEq, Nat.reduceAdd, Int.reduceBEq, Int.reduceBNe, Int.reduceLT, Zv, Ya, tup, tyf])
    clear hN N
    refine Yc fun N hN => ?_
    refine code_loop w gr fun hp ov e hs he => hN [(4, .slice none 0 0), (5, .int .i64 0), (10, ov)] _ _ ?_ he
    clear hN N
    refine Yf ?_
    simp (maxSteps := 2000000) only [s19, ↓Za, ↓Zk, ↓Zs, ↓Zf, ↓Zn, ↓Zt, ↓Ze, ↓Zj, ↓Zg, ↓Zb, ↓Zc, ↓vdn, vup, Zl, Zh, Zi, Zm, Zo, List.map_cons, List.map_nil, cond_true, cond_false, aop, Zw, Zr, Zp, ev, sput, Zu, Zz, Yb, unK, Zd, Zx, Nat.reduceBEq, Nat.reduceAdd, Int.reduceBEq, Int.reduceBNe, Int.reduceLT, Zv, Ya, tup, tyf]
    exact ⟨hE.trans hs.2.1, hcr _ _ (by rw [if_pos hw]; exact ⟨ov, rfl, hs.1⟩)⟩
  · rw [if_neg hw] at hr
    subst hr
    simp (maxSteps := 2000000) only [s19, ↓Za, ↓Zk, ↓Zs, ↓Zf, ↓Zn, ↓Zt, ↓Ze, ↓Zj, ↓Zg, ↓Zb, ↓Zc, ↓vdn, vup, Zl, Zh, Zi, Zm, Zo, List.map_cons, List.map_nil, cond_true, cond_false, aop, Zw, Zr, Zp, ev, sput, Zu, Zz, Yb, unK, Zd, Zx, Nat.reduceBEq, Nat.reduceAdd, Int.reduceBEq, Int.reduceBNe, Int.reduceLT, Zv, Ya, tup, tyf]
    refine hN [(0, v), (1, Zy n), (4, .slice none 0 0), (5, .int .i64 0), (6, .pointer none), (7, .bool false)] _ _ ?_ (by simp (maxSteps := 2000000) only [↓Za, ↓Zk, ↓Zs, ↓Zf, ↓Zn, ↓Zt, ↓Ze, ↓Zj, ↓Zg, ↓Zb, ↓Zc, ↓vdn, vup, Zl, Zh, Zi, Zm, Zo, List.map_cons, List.map_nil, cond_true, cond_false, aop, Zw, Zr, Zp, ev, sput, Zu, Zz, Yb, unK, Zd, Zx, Nat.reduceBEq, Nat.reduceAdd, Int.reduceBEq, Int.reduceBNe, Int.reduceLT, Zv, Ya, tup, tyf])
    clear hN N
    refine Yf ?_
    simp (maxSteps := 2000000) only [s19, ↓Za, ↓Zk, ↓Zs, ↓Zf, ↓Zn, ↓Zt, ↓Ze, ↓Zj, ↓Zg, ↓Zb, ↓Zc, ↓vdn, vup, Zl, Zh, Zi, Zm, Zo, List.map_cons, List.map_nil, cond_true, cond_false, aop, Zw, Zr, Zp, ev, sput, Zu, Zz, Yb, unK, Zd, Zx, Nat.reduceBEq, Nat.reduceAdd, Int.reduceBEq, Int.reduceBNe, Int.reduceLT, Zv, Ya, tup, tyf, Bool.not_false]
    exact ⟨hE, hcr _ _ (by rw [if_neg hw])⟩
end Go.Proofs.Tryd.Am

namespace Go.Proofs.Tryd.Am
open Go.Am
set_option maxRecDepth 100000
/-! 28: planchet sure.Cover -/
@[reducible] def q28_0 : SCode := .region [⟨some 2, .assign (.const (.int .i64 0)), none⟩,
    ⟨some 3, .assign (.const (.int .i64 0)), none⟩]
@[reducible] def q28_1 : SCode := .region [⟨some 9, .move (.tmp 0), none⟩,
    ⟨some 4, .assign (.tmp 9), none⟩]
@[reducible] def q28_2 : SCode := .region [⟨some 10, .move (.tmp 4), none⟩,
    ⟨some 11, .call { callee := .value (.func 51), args := #[.tmp 10], argTypes := #[56] }, none⟩,
    ⟨some 12, .unOp .not 4 (.tmp 11), none⟩]
@[reducible] def q28_3 : SCode := .region [⟨some 2, .assign (.const (.int .i64 0)), none⟩,
    ⟨some 3, .assign (.const (.int .i64 2)), none⟩]
@[reducible] def q28_4 : SCode := .region [⟨some 13, .move (.tmp 4), none⟩,
    ⟨some 14, .call { callee := .value (.func 57), args := #[.tmp 13], argTypes := #[56] }, none⟩,
    ⟨some 15, .binOp .add 3 (.tmp 14) (.const (.int .i64 1)) 3, none⟩,
    ⟨some 16, .makeSlice 22 (.tmp 15) (.tmp 15), none⟩,
    ⟨some 5, .assign (.tmp 16), none⟩]
@[reducible] def q28_5 : SCode := .region [⟨some 6, .assign (.const (.int .i64 1)), none⟩]
@[reducible] def q28_6 : SCode := .region [⟨some 17, .move (.tmp 6), none⟩,
    ⟨some 18, .move (.tmp 4), none⟩,
    ⟨some 19, .call { callee := .value (.func 57), args := #[.tmp 18], argTypes := #[56] }, none⟩,
    ⟨some 20, .binOp .leq 3 (.tmp 17) (.tmp 19) 3, none⟩]
@[reducible] def q28_8 : SCode := .region [⟨some 23, .move (.tmp 5), none⟩,
    ⟨some 24, .move (.tmp 6), none⟩,
    ⟨some 25, .move (.tmp 0), none⟩,
    ⟨some 26, .call { callee := .builtin .len, args := #[.tmp 25], argTypes := #[22] }, none⟩,
    ⟨some 27, .indexAddr 22 (.tmp 23) (.tmp 24), none⟩,
    ⟨none, .store 3 (.tmp 27) (.tmp 26), none⟩]
@[reducible] def q28_9 : SCode := .region [⟨some 28, .move (.tmp 4), none⟩,
    ⟨some 29, .call { callee := .value (.func 56), args := #[.tmp 28], argTypes := #[56] }, none⟩,
    ⟨some 30, .call { callee := .builtin .len, args := #[.tmp 29], argTypes := #[22] }, none⟩,
    ⟨some 31, .move (.const (.int .i64 0)), none⟩]
@[reducible] def q28_10 : SCode := .region [⟨some 32, .binOp .lss 3 (.tmp 31) (.tmp 30) 3, none⟩]
@[reducible] def q28_11 : SCode := .region [⟨some 33, .indexAddr 22 (.tmp 29) (.tmp 31), none⟩,
    ⟨some 34, .load 3 (.tmp 33), none⟩,
    ⟨some 8, .assign (.tmp 34), none⟩]
@[reducible] def q28_12 : SCode := .region [⟨some 35, .move (.tmp 8), none⟩,
    ⟨some 36, .move (.tmp 6), none⟩,
    ⟨some 37, .binOp .and 3 (.tmp 35) (.tmp 36) 3, none⟩,
    ⟨some 38, .binOp .neq 3 (.tmp 37) (.const (.int .i64 0)) 3, none⟩]
def q28_13 : SCode := .draw [⟨some 39, .move (.tmp 5), none⟩,
    ⟨some 40, .move (.tmp 6), none⟩,
    ⟨some 41, .move (.tmp 5), none⟩,
    ⟨some 42, .move (.tmp 6), none⟩,
    ⟨some 43, .indexAddr 22 (.tmp 41) (.tmp 42), none⟩,
    ⟨some 44, .load 3 (.tmp 43), none⟩,
    ⟨some 45, .move (.tmp 5), none⟩,
    ⟨some 46, .move (.tmp 6), none⟩,
    ⟨some 47, .move (.tmp 8), none⟩,
    ⟨some 48, .binOp .andNot 3 (.tmp 46) (.tmp 47) 3, none⟩,
    ⟨some 49, .indexAddr 22 (.tmp 45) (.tmp 48), none⟩,
    ⟨some 50, .load 3 (.tmp 49), none⟩,
    ⟨some 51, .binOp .add 3 (.const (.int .i64 1)) (.tmp 50) 3, none⟩,
    ⟨some 52, .call { callee := .builtin .min, args := #[.tmp 44, .tmp 51], argTypes := #[3, 3] }, none⟩,
    ⟨some 53, .indexAddr 22 (.tmp 39) (.tmp 40), none⟩,
    ⟨none, .store 3 (.tmp 53) (.tmp 52), none⟩]
   [[], [], [], [], [2, 3], [4], [], [], [], [7, 8], [6, 9], [10], [11], [5, 12], [0, 1, 0, 1, 2, 3, 4, 5, 6, 7, 8, 9, 10, 11, 12, 13], [14, 13, 0, 1, 2, 3, 4, 5, 6, 7, 8, 9, 10, 11, 12, 13]]
@[reducible] def q28_14 : SCode := .region [⟨some 54, .binOp .add 3 (.tmp 31) (.const (.int .i64 1)) 3, none⟩,
    ⟨some 31, .move (.tmp 54), none⟩]
def l28_0 : SCode := (.seq q28_10 (.seq (.cond (.tmp 32) .skip (.exit 2)) (.seq (.block 3 (.seq q28_11 (.seq q28_12 (.cond (.tmp 38) q28_13 .skip)))) q28_14)))
@[reducible] def q28_7 : SCode := .region [⟨some 21, .move (.tmp 6), none⟩,
    ⟨some 22, .binOp .add 3 (.tmp 21) (.const (.int .i64 1)) 3, none⟩,
    ⟨some 6, .assign (.tmp 22), none⟩]
def l28_1 : SCode := (.seq (.seq q28_6 (.cond (.tmp 20) .skip (.exit 0))) (.seq (.block 1 (.seq q28_8 (.seq q28_9 (.block 2 (.loop l28_0))))) q28_7))
@[reducible] def q28_15 : SCode := .region [⟨some 55, .move (.tmp 5), none⟩,
    ⟨some 56, .move (.tmp 4), none⟩,
    ⟨some 57, .call { callee := .value (.func 57), args := #[.tmp 56], argTypes := #[56] }, none⟩,
    ⟨some 58, .indexAddr 22 (.tmp 55) (.tmp 57), none⟩,
    ⟨some 59, .load 3 (.tmp 58), none⟩,
    ⟨some 2, .assign (.tmp 59), none⟩,
    ⟨some 3, .assign (.const (.int .i64 0)), none⟩]
def s28 : SCode := (.seq q28_0 (.seq q28_1 (.seq (.seq q28_2 (.cond (.tmp 12) (.seq q28_3 .ret) .skip)) (.seq q28_4 (.seq (.seq q28_5 (.block 0 (.loop l28_1))) (.seq q28_15 .ret))))))
theorem s28_strip : Yi (Ym Tryd.f28) = s28 := by kernel_rfl
theorem s28_ok : Yx 60 (Ym Tryd.f28) = true := by kernel_rfl
/-! 56: (planchet sure.graph).cliques -/
@[reducible] def q56_0 : SCode := .region [⟨some 2, .assign (.const (.slice none 0 0)), none⟩]
@[reducible] def q56_1 : SCode := .region [⟨some 3, .assign (.const (.slice none 0 0)), none⟩]
@[reducible] def q56_2 : SCode := .region [⟨some 4, .assign (.const (.int .i64 1)), none⟩]
@[reducible] def q56_3 : SCode := .region [⟨some 6, .move (.tmp 4), none⟩,
    ⟨some 7, .move (.tmp 0), none⟩,
    ⟨some 8, .call { callee := .value (.func 57), args := #[.tmp 7], argTypes := #[56] }, none⟩,
    ⟨some 9, .binOp .leq 3 (.tmp 6) (.tmp 8) 3, none⟩]
@[reducible] def q56_5 : SCode := .region [⟨some 12, .move (.tmp 0), none⟩,
    ⟨some 13, .call { callee := .builtin .len, args := #[.tmp 12], argTypes := #[56] }, none⟩,
    ⟨some 14, .move (.const (.int .i64 0)), none⟩]
@[reducible] def q56_6 : SCode := .region [⟨some 15, .binOp .lss 3 (.tmp 14) (.tmp 13) 3, none⟩]
@[reducible] def q56_7 : SCode := .region [⟨some 16, .move (.tmp 14), none⟩,
    ⟨some 5, .assign (.tmp 16), none⟩]
def q56_8 : SCode := .draw [⟨some 17, .move (.tmp 4), none⟩,
    ⟨some 18, .move (.tmp 5), none⟩,
    ⟨some 19, .binOp .shr 3 (.tmp 17) (.tmp 18) 3, none⟩,
    ⟨some 20, .binOp .and 3 (.tmp 19) (.const (.int .i64 1)) 3, none⟩,
    ⟨some 21, .binOp .eql 3 (.tmp 20) (.const (.int .i64 1)) 3, none⟩,
    ⟨some 22, .move (.tmp 21), none⟩,
    ⟨some 23, .move (.tmp 4), some (22, true)⟩,
    ⟨some 24, .move (.tmp 0), some (22, true)⟩,
    ⟨some 25, .move (.tmp 5), some (22, true)⟩,
    ⟨some 26, .indexAddr 56 (.tmp 24) (.tmp 25), some (22, true)⟩,
    ⟨some 27, .load 3 (.tmp 26), some (22, true)⟩,
    ⟨some 28, .binOp .andNot 3 (.tmp 23) (.tmp 27) 3, some (22, true)⟩,
    ⟨some 29, .move (.tmp 5), some (22, true)⟩,
    ⟨some 30, .binOp .shl 3 (.const (.int .i64 1)) (.tmp 29) 3, some (22, true)⟩,
    ⟨some 31, .binOp .neq 3 (.tmp 28) (.tmp 30) 3, some (22, true)⟩,
    ⟨some 32, .pick (.tmp 22) (.tmp 31) (.const (.bool false)), none⟩]
   [[], [], [0, 1], [2], [3], [4], [5], [5], [5], [7, 8, 5], [9, 5], [6, 10, 5], [5], [12, 5], [11, 13, 5], [5, 14]]
@[reducible] def q56_9 : SCode := .region [⟨some 33, .binOp .add 3 (.tmp 14) (.const (.int .i64 1)) 3, none⟩,
    ⟨some 14, .move (.tmp 33), none⟩]
def l56_0 : SCode := (.seq q56_6 (.seq (.cond (.tmp 15) .skip (.exit 2)) (.seq (.block 3 (.seq q56_7 (.seq q56_8 (.cond (.tmp 32) (.exit 1) .skip)))) q56_9)))
@[reducible] def q56_10 : SCode := .region [⟨some 34, .move (.tmp 3), none⟩,
    ⟨some 35, .move (.tmp 4), none⟩,
    ⟨some 36, .buildSlice 22 1 #[(0, .tmp 35)], none⟩,
    ⟨some 37, .call { callee := .builtin .append, args := #[.tmp 34, .tmp 36], argTypes := #[22, 22] }, none⟩,
    ⟨some 3, .assign (.tmp 37), none⟩]
@[reducible] def q56_4 : SCode := .region [⟨some 10, .move (.tmp 4), none⟩,
    ⟨some 11, .binOp .add 3 (.tmp 10) (.const (.int .i64 1)) 3, none⟩,
    ⟨some 4, .assign (.tmp 11), none⟩]
def l56_1 : SCode := (.seq (.seq q56_3 (.cond (.tmp 9) .skip (.exit 0))) (.seq (.block 1 (.seq (.seq q56_5 (.block 2 (.loop l56_0))) q56_10)) q56_4))
@[reducible] def q56_11 : SCode := .region [⟨some 38, .move (.tmp 3), none⟩,
    ⟨some 2, .assign (.tmp 38), none⟩]
def s56 : SCode := (.seq q56_0 (.scope (.seq q56_1 (.seq .skip (.seq (.seq q56_2 (.block 0 (.loop l56_1))) (.seq q56_11 .ret))))))
theorem s56_strip : Yi (Ym Tryd.f56) = s56 := by kernel_rfl
theorem s56_ok : Yx 39 (Ym Tryd.f56) = true := by kernel_rfl
/-! 57: (planchet sure.graph).all -/
@[reducible] def q57_0 : SCode := .region [⟨some 2, .assign (.const (.int .i64 0)), none⟩]
@[reducible] def q57_1 : SCode := .region [⟨some 3, .move (.tmp 0), none⟩,
    ⟨some 4, .call { callee := .builtin .len, args := #[.tmp 3], argTypes := #[56] }, none⟩,
    ⟨some 5, .binOp .shl 3 (.const (.int .i64 1)) (.tmp 4) 3, none⟩,
    ⟨some 6, .binOp .sub 3 (.tmp 5) (.const (.int .i64 1)) 3, none⟩,
    ⟨some 2, .assign (.tmp 6), none⟩]
def s57 : SCode := (.seq q57_0 (.seq q57_1 .ret))
theorem s57_strip : Yi (Ym Tryd.f57) = s57 := by kernel_rfl
theorem s57_ok : Yx 7 (Ym Tryd.f57) = true := by kernel_rfl
end Go.Proofs.Tryd.Am

namespace Go.Proofs.Tryd.Am
open Go.Am Sr
set_option maxRecDepth 100000
set_option maxHeartbeats 1000000

def gn (xs : List Int) (i : Nat) : Nat := (xs.getD i 0).toNat
def cq (xs : List Int) (s i : Nat) : Bool := !s.testBit i || (less s (gn xs i) == 2 ^ i)
def isC (xs : List Int) (s : Nat) : Bool := (List.range xs.length).all (cq xs s)
def clqTo (xs : List Int) (t : Nat) : List Nat := (List.range t).filter fun s => decide (0 < s) && isC xs s
def clq (xs : List Int) : List Nat := clqTo xs (2 ^ xs.length)
theorem clqTo_yes {xs : List Int} {t : Nat} (ht : 1 ≤ t) (h : isC xs t = true) : clqTo xs (t + 1) = clqTo xs t ++ [t] := by
  rw [clqTo, List.range_succ, List.filter_append, clqTo]
  simp [h, show 0 < t from ht]
theorem clqTo_no {xs : List Int} {t : Nat} (h : isC xs t = false) : clqTo xs (t + 1) = clqTo xs t := by
  rw [clqTo, List.range_succ, List.filter_append, clqTo]
  simp [h]
theorem clqTo_len (xs : List Int) (t : Nat) : (clqTo xs t).length ≤ t := by
  have := List.length_filter_le (fun s => decide (0 < s) && isC xs s) (List.range t)
  rw [List.length_range] at this; exact this
theorem isC_no {xs : List Int} {s i : Nat} (hi : i < xs.length) (h : cq xs s i = false) : isC xs s = false := by
  rw [isC, ← Bool.not_eq_true, List.all_eq_true]
  intro h2
  rw [h2 i (List.mem_range.2 hi)] at h; cases h
theorem isC_yes {xs : List Int} {s : Nat} (h : ∀ i, i < xs.length → cq xs s i = true) : isC xs s = true := by
  rw [isC, List.all_eq_true]
  exact fun i hi => h i (List.mem_range.1 hi)
theorem pow6N {n : Nat} (h : n ≤ 6) : 2 ^ n ≤ 64 := Nat.pow_le_pow_right (n := 2) (by decide) h
theorem gnE {xs : List Int} (g : Gs xs) {i : Nat} (hi : i < xs.length) : xs.getD i 0 = ((gn xs i : Nat) : Int) ∧ gn xs i < 64 := by
  have := gs_lt g hi
  unfold gn; omega
theorem shlI1 {n : Nat} (h : n ≤ 62) : shlV .i64 1 (n : Int) = ((2 ^ n : Nat) : Int) := by
  have h2 : 2 ^ n ≤ 2 ^ 62 := Nat.pow_le_pow_right (by decide) h
  have := shlV_nat (a := 1) (y := n) (by omega) (by omega)
  simpa using this
theorem shlM {n M : Nat} (h : n ≤ 62) (hM : 2 ^ n = M) : shlV .i64 1 (n : Int) = ((M : Nat) : Int) := by rw [shlI1 h, hM]
theorem beqN {a b : Nat} : (((a : Nat) : Int) == ((b : Nat) : Int)) = (a == b) := by
  rw [Bool.eq_iff_iff, beq_iff_eq, beq_iff_eq]; omega

theorem s57_callW [Tabs Tryd.prog] {args : List Value} {h : Yd} {Q : Value → Yd → Prop} (hsz : args.length ≤ 7) (hk : AWS Tryd.prog 7 s57 (Zv Tryd.prog [.tmp 2] Q) (Zp 0 args) h) : ACall Tryd.prog 57 args h Q :=
  Wb Tryd.func57 rfl (enters_of Tryd.func57 (by kernel_rfl) rfl) rfl rfl (by decide) s57_strip s57_ok hsz hk
theorem all_call [Tabs prog] {h : Yd} {v : Value} {xs : List Int} (hv : IntSl h v xs) (hn : xs.length ≤ 6) {M : Nat} (hM : 2 ^ xs.length = M) : APure prog 57 [v] h (Zy ((M - 1 : Nat) : Int)) := by
  have h64 := pow6N hn
  have hp := Nat.two_pow_pos xs.length
  rw [hM] at h64 hp
  refine s57_callW (by simp) ?_
  refine Yf ?_
  simp (maxSteps := 2000000) only [s57, ↓Za, ↓Zk, ↓Zs, ↓Zf, ↓Zn, ↓Zt, ↓Ze, ↓Zj, ↓Zg, ↓Zb, ↓Zc, ↓vdn, vup, Zl, Zh, Zi, Zm, Zo, List.map_cons, List.map_nil, cond_true, cond_false, aop, Zw, Zr, Zp, ev, sput, Zu, Zz, Yb, unK, Zd, Zx, Nat.reduceBEq, Nat.reduceAdd, Int.reduceBEq, Int.reduceBNe, Int.reduceLT, Zv, Ya, tup, tyf, hv.len, shlM (show xs.length ≤ 62 by omega) hM, subN1 (show 1 ≤ M by omega) (show M < 9223372036854775808 by omega)]

theorem s56_callW [Tabs Tryd.prog] {args : List Value} {h : Yd} {Q : Value → Yd → Prop} (hsz : args.length ≤ 39) (hk : AWS Tryd.prog 39 s56 (Zv Tryd.prog [.tmp 2] Q) (Zp 0 args) h) : ACall Tryd.prog 56 args h Q :=
  Wb Tryd.func56 rfl (enters_of Tryd.func56 (by kernel_rfl) rfl) rfl rfl (by decide) s56_strip s56_ok hsz hk
theorem cliques_call [Tabs prog] {h : Yd} {v : Value} {xs : List Int} (hv : IntSl h v xs) (g : Gs xs) : ACall prog 56 [v] h fun r h' => RSI h h' r ((clq xs).map Int.ofNat) := by
  have h6 := g.2.1
  have h64 := pow6N h6
  have hp0 := Nat.two_pow_pos xs.length
  obtain ⟨M, hM⟩ : ∃ M, 2 ^ xs.length = M := ⟨_, rfl⟩
  rw [hM] at h64 hp0
  have hnn : ∀ i : Nat, (0 : Int) ≤ (i : Int) := Int.natCast_nonneg
  refine s56_callW (by simp) ?_
  simp only [s56]
  refine Yc fun N1 hN1 => ?_
  simp (maxSteps := 2000000) only [s56, ↓Za, ↓Zk, ↓Zs, ↓Zf, ↓Zn, ↓Zt, ↓Ze, ↓Zj, ↓Zg, ↓Zb, ↓Zc, ↓vdn, vup, Zl, Zh, Zi, Zm, Zo, List.map_cons, List.map_nil, cond_true, cond_false, aop, Zw, Zr, Zp, ev, sput, Zu, Zz, Yb, unK, Zd, Zx, Nat.reduceBEq, Nat.reduceAdd, Int.reduceBEq, Int.reduceBNe, Int.reduceLT, Zv, Ya, tup, tyf]
  refine hN1 [(0, v), (2, .slice none 0 0)] _ _ ?_ (by simp (maxSteps := 2000000) only [↓Za, ↓Zk, ↓Zs, ↓Zf, ↓Zn, ↓Zt, ↓Ze, ↓Zj, ↓Zg, ↓Zb, ↓Zc, ↓vdn, vup, Zl, Zh, Zi, Zm, Zo, List.map_cons, List.map_nil, cond_true, cond_false, aop, Zw, Zr, Zp, ev, sput, Zu, Zz, Yb, unK, Zd, Zx, Nat.reduceBEq, Nat.reduceAdd, Int.reduceBEq, Int.reduceBNe, Int.reduceLT, Zv, Ya, tup, tyf])
  clear hN1
  try clear N1
  refine aws_scope ?_
  refine Yc fun N2 hN2 => ?_
  simp (maxSteps := 2000000) only [s56, ↓Za, ↓Zk, ↓Zs, ↓Zf, ↓Zn, ↓Zt, ↓Ze, ↓Zj, ↓Zg, ↓Zb, ↓Zc, ↓vdn, vup, Zl, Zh, Zi, Zm, Zo, List.map_cons, List.map_nil, cond_true, cond_false, aop, Zw, Zr, Zp, ev, sput, Zu, Zz, Yb, unK, Zd, Zx, Nat.reduceBEq, Nat.reduceAdd, Int.reduceBEq, Int.reduceBNe, Int.reduceLT, Zv, Ya, tup, tyf]
  refine hN2 [(0, v), (2, .slice none 0 0), (3, .slice none 0 0)] _ _ ?_ (by simp (maxSteps := 2000000) only [↓Za, ↓Zk, ↓Zs, ↓Zf, ↓Zn, ↓Zt, ↓Ze, ↓Zj, ↓Zg, ↓Zb, ↓Zc, ↓vdn, vup, Zl, Zh, Zi, Zm, Zo, List.map_cons, List.map_nil, cond_true, cond_false, aop, Zw, Zr, Zp, ev, sput, Zu, Zz, Yb, unK, Zd, Zx, Nat.reduceBEq, Nat.reduceAdd, Int.reduceBEq, Int.reduceBNe, Int.reduceLT, Zv, Ya, tup, tyf])
  clear hN2
  try clear N2
  refine Yc fun N3 hN3 => ?_
  simp (maxSteps := 2000000) only [s56, ↓Za, ↓Zk, ↓Zs, ↓Zf, ↓Zn, ↓Zt, ↓Ze, ↓Zj, ↓Zg, ↓Zb, ↓Zc, ↓vdn, vup, Zl, Zh, Zi, Zm, Zo, List.map_cons, List.map_nil, cond_true, cond_false, aop, Zw, Zr, Zp, ev, sput, Zu, Zz, Yb, unK, Zd, Zx, Nat.reduceBEq, Nat.reduceAdd, Int.reduceBEq, Int.reduceBNe, Int.reduceLT, Zv, Ya, tup, tyf]
  refine hN3 [(0, v), (2, .slice none 0 0), (3, .slice none 0 0)] _ _ ?_ (by simp (maxSteps := 2000000) only [↓Za, ↓Zk, ↓Zs, ↓Zf, ↓Zn, ↓Zt, ↓Ze, ↓Zj, ↓Zg, ↓Zb, ↓Zc, ↓vdn, vup, Zl, Zh, Zi, Zm, Zo, List.map_cons, List.map_nil, cond_true, cond_false, aop, Zw, Zr, Zp, ev, sput, Zu, Zz, Yb, unK, Zd, Zx, Nat.reduceBEq, Nat.reduceAdd, Int.reduceBEq, Int.reduceBNe, Int.reduceLT, Zv, Ya, tup, tyf])
  clear hN3
  try clear N3
  refine Yc fun Z hZ => ?_
  simp (maxSteps := 2000000) only [s56, ↓Za, ↓Zk, ↓Zs, ↓Zf, ↓Zn, ↓Zt, ↓Ze, ↓Zj, ↓Zg, ↓Zb, ↓Zc, ↓vdn, vup, Zl, Zh, Zi, Zm, Zo, List.map_cons, List.map_nil, cond_true, cond_false, aop, Zw, Zr, Zp, ev, sput, Zu, Zz, Yb, unK, Zd, Zx, Nat.reduceBEq, Nat.reduceAdd, Int.reduceBEq, Int.reduceBNe, Int.reduceLT, Zv, Ya, tup, tyf, ↓Xd]
  refine Yh fun Q hQ => ?_
  refine Xs (γ := Nat × Value × Yd) (fun s => 1 ≤ s.1 ∧ s.1 ≤ M ∧ RSI h s.2.2 s.2.1 ((clqTo xs s.1).map Int.ofNat))
    (fun s => ([(0, v), (2, .slice none 0 0), (3, s.2.1), (4, Zy s.1)], s.2.2)) (fun s => M - s.1) (1, .slice none 0 0, h) ⟨Nat.le_refl _, hp0, RSI.nil h⟩ (by simp (maxSteps := 2000000) only [↓Za, ↓Zk, ↓Zs, ↓Zf, ↓Zn, ↓Zt, ↓Ze, ↓Zj, ↓Zg, ↓Zb, ↓Zc, ↓vdn, vup, Zl, Zh, Zi, Zm, Zo, List.map_cons, List.map_nil, cond_true, cond_false, aop, Zw, Zr, Zp, ev, sput, Zu, Zz, Yb, unK, Zd, Zx, Nat.reduceBEq, Nat.reduceAdd, Int.reduceBEq, Int.reduceBNe, Int.reduceLT, Zv, Ya, tup, tyf, Int.natCast_one]) rfl ?_
  rintro ⟨t, ov, hp⟩ ⟨ht1, ht, hs⟩
  simp only at ht1 ht hs
  refine Yh fun Q2 hQ2 => ?_
  simp only [l56_1]
  have hv1 := Xn hv hs.2.1
  have ht64 : t < 9223372036854775808 := by omega
  by_cases hin : t < M
  · have hle : ((t : Nat) : Int) ≤ ((M - 1 : Nat) : Int) := by omega
    refine Yc fun N4 hN4 => ?_
    simp (maxSteps := 2000000) only [s56, ↓Za, ↓Zk, ↓Zs, ↓Zf, ↓Zn, ↓Zt, ↓Ze, ↓Zj, ↓Zg, ↓Zb, ↓Zc, ↓vdn, vup, Zl, Zh, Zi, Zm, Zo, List.map_cons, List.map_nil, cond_true, cond_false, aop, Zw, Zr, Zp, ev, sput, Zu, Zz, Yb, unK, Zd, Zx, Nat.reduceBEq, Nat.reduceAdd, Int.reduceBEq, Int.reduceBNe, Int.reduceLT, Zv, Ya, tup, tyf, Yy, List.nil_append, List.append_nil, List.toList_toArray, List.cons_append]
    refine (all_call hv1 h6 hM).mono ?_
    rintro _ hp ⟨rfl, rfl⟩
    simp (maxSteps := 2000000) only [s56, ↓Za, ↓Zk, ↓Zs, ↓Zf, ↓Zn, ↓Zt, ↓Ze, ↓Zj, ↓Zg, ↓Zb, ↓Zc, ↓vdn, vup, Zl, Zh, Zi, Zm, Zo, List.map_cons, List.map_nil, cond_true, cond_false, aop, Zw, Zr, Zp, ev, sput, Zu, Zz, Yb, unK, Zd, Zx, Nat.reduceBEq, Nat.reduceAdd, Int.reduceBEq, Int.reduceBNe, Int.reduceLT, Zv, Ya, tup, tyf, hle]
    refine hN4 [(0, v), (2, .slice none 0 0), (3, ov), (4, Zy t)] _ _ ?_ (by simp (maxSteps := 2000000) only [↓Za, ↓Zk, ↓Zs, ↓Zf, ↓Zn, ↓Zt, ↓Ze, ↓Zj, ↓Zg, ↓Zb, ↓Zc, ↓vdn, vup, Zl, Zh, Zi, Zm, Zo, List.map_cons, List.map_nil, cond_true, cond_false, aop, Zw, Zr, Zp, ev, sput, Zu, Zz, Yb, unK, Zd, Zx, Nat.reduceBEq, Nat.reduceAdd, Int.reduceBEq, Int.reduceBNe, Int.reduceLT, Zv, Ya, tup, tyf])
    clear hN4
    try clear N4
    refine Yg fun K hK => ?_
    have fin : ∀ ov2 hp2, RSI h hp2 ov2 ((clqTo xs (t + 1)).map Int.ofNat) → ∀ e, ELe e [(0, v), (2, .slice none 0 0), (3, ov2), (4, Zy t)] → K e hp2 := by
      intro ov2 hp2 s2 e he
      refine hK [(0, v), (2, .slice none 0 0), (3, ov2), (4, Zy t)] _ _ ?_ he
      refine Yf ?_
      simp (maxSteps := 2000000) only [s56, ↓Za, ↓Zk, ↓Zs, ↓Zf, ↓Zn, ↓Zt, ↓Ze, ↓Zj, ↓Zg, ↓Zb, ↓Zc, ↓vdn, vup, Zl, Zh, Zi, Zm, Zo, List.map_cons, List.map_nil, cond_true, cond_false, aop, Zw, Zr, Zp, ev, sput, Zu, Zz, Yb, unK, Zd, Zx, Nat.reduceBEq, Nat.reduceAdd, Int.reduceBEq, Int.reduceBNe, Int.reduceLT, Zv, Ya, tup, tyf, add1 (show t < 9223372036854775807 by omega)]
      exact hQ2 _ _ _ ⟨(t + 1, ov2, hp2), ⟨by simp only; omega, by simp only; omega, s2⟩, by simp only; omega, by simp (maxSteps := 2000000) only [↓Za, ↓Zk, ↓Zs, ↓Zf, ↓Zn, ↓Zt, ↓Ze, ↓Zj, ↓Zg, ↓Zb, ↓Zc, ↓vdn, vup, Zl, Zh, Zi, Zm, Zo, List.map_cons, List.map_nil, cond_true, cond_false, aop, Zw, Zr, Zp, ev, sput, Zu, Zz, Yb, unK, Zd, Zx, Nat.reduceBEq, Nat.reduceAdd, Int.reduceBEq, Int.reduceBNe, Int.reduceLT, Zv, Ya, tup, tyf], rfl⟩
    clear hK
    refine Yo ?_
    refine Yc fun N5 hN5 => ?_
    simp (maxSteps := 2000000) only [s56, ↓Za, ↓Zk, ↓Zs, ↓Zf, ↓Zn, ↓Zt, ↓Ze, ↓Zj, ↓Zg, ↓Zb, ↓Zc, ↓vdn, vup, Zl, Zh, Zi, Zm, Zo, List.map_cons, List.map_nil, cond_true, cond_false, aop, Zw, Zr, Zp, ev, sput, Zu, Zz, Yb, unK, Zd, Zx, Nat.reduceBEq, Nat.reduceAdd, Int.reduceBEq, Int.reduceBNe, Int.reduceLT, Zv, Ya, tup, tyf, hv1.len, ↓Xd]
    refine Yh fun Q3 hQ3 => ?_
    refine Wt (γ := Nat) (fun i => i ≤ xs.length ∧ ∀ k, k < i → cq xs t k = true)
      (fun i => ([(0, v), (2, .slice none 0 0), (3, ov), (4, Zy t), (13, Zy xs.length), (14, Zy i)], hp)) (fun i => xs.length - i) 0 ⟨Nat.zero_le _, fun _ h => by omega⟩ (by simp (maxSteps := 2000000) only [↓Za, ↓Zk, ↓Zs, ↓Zf, ↓Zn, ↓Zt, ↓Ze, ↓Zj, ↓Zg, ↓Zb, ↓Zc, ↓vdn, vup, Zl, Zh, Zi, Zm, Zo, List.map_cons, List.map_nil, cond_true, cond_false, aop, Zw, Zr, Zp, ev, sput, Zu, Zz, Yb, unK, Zd, Zx, Nat.reduceBEq, Nat.reduceAdd, Int.reduceBEq, Int.reduceBNe, Int.reduceLT, Zv, Ya, tup, tyf, Int.natCast_zero]) rfl ?_
    rintro i ⟨hi, hok⟩
    refine Wr fun Q4 hQ4 => ?_
    by_cases hin2 : (i : Int) < xs.length
    · have hi' : i < xs.length := by omega
      obtain ⟨hge, hgl⟩ := gnE g hi'
      simp (maxSteps := 2000000) only [s56, ↓Za, ↓Zk, ↓Zs, ↓Zf, ↓Zn, ↓Zt, ↓Ze, ↓Zj, ↓Zg, ↓Zb, ↓Zc, ↓vdn, vup, Zl, Zh, Zi, Zm, Zo, List.map_cons, List.map_nil, cond_true, cond_false, aop, Zw, Zr, Zp, ev, sput, Zu, Zz, Yb, unK, Zd, Zx, Nat.reduceBEq, Nat.reduceAdd, Int.reduceBEq, Int.reduceBNe, Int.reduceLT, Zv, Ya, tup, tyf, l56_0, hin2]
      refine Wc [] (by kernel_rfl) (by kernel_rfl) (by kernel_rfl) (by kernel_rfl) ?_
      cases hb : t.testBit i with
      | false =>
        simp (maxSteps := 2000000) only [s56, ↓Za, ↓Zk, ↓Zs, ↓Zf, ↓Zn, ↓Zt, ↓Ze, ↓Zj, ↓Zg, ↓Zb, ↓Zc, ↓vdn, vup, Zl, Zh, Zi, Zm, Zo, List.map_cons, List.map_nil, cond_true, cond_false, aop, Zw, Zr, Zp, ev, sput, Zu, Zz, Yb, unK, Zd, Zx, Nat.reduceBEq, Nat.reduceAdd, Int.reduceBEq, Int.reduceBNe, Int.reduceLT, Zv, Ya, tup, tyf, hnn, testV ht64, hb, beq1, Bool.false_eq_true, if_false, add1 (show i < 9223372036854775807 by omega)]
        refine hQ4 _ _ _ ⟨i + 1, ⟨by omega, fun k hk => ?_⟩, by omega, by simp (maxSteps := 2000000) only [↓Za, ↓Zk, ↓Zs, ↓Zf, ↓Zn, ↓Zt, ↓Ze, ↓Zj, ↓Zg, ↓Zb, ↓Zc, ↓vdn, vup, Zl, Zh, Zi, Zm, Zo, List.map_cons, List.map_nil, cond_true, cond_false, aop, Zw, Zr, Zp, ev, sput, Zu, Zz, Yb, unK, Zd, Zx, Nat.reduceBEq, Nat.reduceAdd, Int.reduceBEq, Int.reduceBNe, Int.reduceLT, Zv, Ya, tup, tyf], rfl⟩
        by_cases hki : k = i
        · subst hki; rw [cq, hb]; rfl
        · exact hok k (by omega)
      | true =>
        cases hq : (less t (gn xs i) == 2 ^ i) with
        | true =>
          simp (maxSteps := 2000000) only [s56, ↓Za, ↓Zk, ↓Zs, ↓Zf, ↓Zn, ↓Zt, ↓Ze, ↓Zj, ↓Zg, ↓Zb, ↓Zc, ↓vdn, vup, Zl, Zh, Zi, Zm, Zo, List.map_cons, List.map_nil, cond_true, cond_false, aop, Zw, Zr, Zp, ev, sput, Zu, Zz, Yb, unK, Zd, Zx, Nat.reduceBEq, Nat.reduceAdd, Int.reduceBEq, Int.reduceBNe, Int.reduceLT, Zv, Ya, tup, tyf, hnn, testV ht64, hb, beq1, if_true, hv1.idx el_56 Xi hi', hv1.load Xl hi', hge, bitsV_andNot ht64 (show gn xs i < 9223372036854775808 by omega), shlI1 (show i ≤ 62 by omega), bneN, hq, Bool.not_true, add1 (show i < 9223372036854775807 by omega)]
          refine hQ4 _ _ _ ⟨i + 1, ⟨by omega, fun k hk => ?_⟩, by omega, by simp (maxSteps := 2000000) only [↓Za, ↓Zk, ↓Zs, ↓Zf, ↓Zn, ↓Zt, ↓Ze, ↓Zj, ↓Zg, ↓Zb, ↓Zc, ↓vdn, vup, Zl, Zh, Zi, Zm, Zo, List.map_cons, List.map_nil, cond_true, cond_false, aop, Zw, Zr, Zp, ev, sput, Zu, Zz, Yb, unK, Zd, Zx, Nat.reduceBEq, Nat.reduceAdd, Int.reduceBEq, Int.reduceBNe, Int.reduceLT, Zv, Ya, tup, tyf], rfl⟩
          by_cases hki : k = i
          · subst hki; rw [cq, hq, Bool.or_true]
          · exact hok k (by omega)
        | false =>
          have hc : isC xs t = false := isC_no hi' (by rw [cq, hb, hq]; rfl)
          simp (maxSteps := 2000000) only [s56, ↓Za, ↓Zk, ↓Zs, ↓Zf, ↓Zn, ↓Zt, ↓Ze, ↓Zj, ↓Zg, ↓Zb, ↓Zc, ↓vdn, vup, Zl, Zh, Zi, Zm, Zo, List.map_cons, List.map_nil, cond_true, cond_false, aop, Zw, Zr, Zp, ev, sput, Zu, Zz, Yb, unK, Zd, Zx, Nat.reduceBEq, Nat.reduceAdd, Int.reduceBEq, Int.reduceBNe, Int.reduceLT, Zv, Ya, tup, tyf, hnn, testV ht64, hb, beq1, if_true, hv1.idx el_56 Xi hi', hv1.load Xl hi', hge, bitsV_andNot ht64 (show gn xs i < 9223372036854775808 by omega), shlI1 (show i ≤ 62 by omega), bneN, hq, Bool.not_false]
          refine hQ4 _ _ _ (hQ3 _ _ _ ?_)
          simp (maxSteps := 2000000) only [s56, ↓Za, ↓Zk, ↓Zs, ↓Zf, ↓Zn, ↓Zt, ↓Ze, ↓Zj, ↓Zg, ↓Zb, ↓Zc, ↓vdn, vup, Zl, Zh, Zi, Zm, Zo, List.map_cons, List.map_nil, cond_true, cond_false, aop, Zw, Zr, Zp, ev, sput, Zu, Zz, Yb, unK, Zd, Zx, Nat.reduceBEq, Nat.reduceAdd, Int.reduceBEq, Int.reduceBNe, Int.reduceLT, Zv, Ya, tup, tyf, Nat.reduceEqDiff, if_true, if_false]
          exact fin ov hp (by rw [clqTo_no hc]; exact hs) _ (by simp (maxSteps := 2000000) only [↓Za, ↓Zk, ↓Zs, ↓Zf, ↓Zn, ↓Zt, ↓Ze, ↓Zj, ↓Zg, ↓Zb, ↓Zc, ↓vdn, vup, Zl, Zh, Zi, Zm, Zo, List.map_cons, List.map_nil, cond_true, cond_false, aop, Zw, Zr, Zp, ev, sput, Zu, Zz, Yb, unK, Zd, Zx, Nat.reduceBEq, Nat.reduceAdd, Int.reduceBEq, Int.reduceBNe, Int.reduceLT, Zv, Ya, tup, tyf])
    · obtain rfl : i = xs.length := by omega
      have hc := isC_yes hok
      simp (maxSteps := 2000000) only [s56, ↓Za, ↓Zk, ↓Zs, ↓Zf, ↓Zn, ↓Zt, ↓Ze, ↓Zj, ↓Zg, ↓Zb, ↓Zc, ↓vdn, vup, Zl, Zh, Zi, Zm, Zo, List.map_cons, List.map_nil, cond_true, cond_false, aop, Zw, Zr, Zp, ev, sput, Zu, Zz, Yb, unK, Zd, Zx, Nat.reduceBEq, Nat.reduceAdd, Int.reduceBEq, Int.reduceBNe, Int.reduceLT, Zv, Ya, tup, tyf, l56_0, Int.lt_irrefl]
      refine hQ4 _ _ _ (hQ3 _ _ _ ?_)
      simp (maxSteps := 2000000) only [s56, ↓Za, ↓Zk, ↓Zs, ↓Zf, ↓Zn, ↓Zt, ↓Ze, ↓Zj, ↓Zg, ↓Zb, ↓Zc, ↓vdn, vup, Zl, Zh, Zi, Zm, Zo, List.map_cons, List.map_nil, cond_true, cond_false, aop, Zw, Zr, Zp, ev, sput, Zu, Zz, Yb, unK, Zd, Zx, Nat.reduceBEq, Nat.reduceAdd, Int.reduceBEq, Int.reduceBNe, Int.reduceLT, Zv, Ya, tup, tyf, if_true]
      refine hN5 [(0, v), (2, .slice none 0 0), (3, ov), (4, Zy t)] _ _ ?_ (by simp (maxSteps := 2000000) only [↓Za, ↓Zk, ↓Zs, ↓Zf, ↓Zn, ↓Zt, ↓Ze, ↓Zj, ↓Zg, ↓Zb, ↓Zc, ↓vdn, vup, Zl, Zh, Zi, Zm, Zo, List.map_cons, List.map_nil, cond_true, cond_false, aop, Zw, Zr, Zp, ev, sput, Zu, Zz, Yb, unK, Zd, Zx, Nat.reduceBEq, Nat.reduceAdd, Int.reduceBEq, Int.reduceBNe, Int.reduceLT, Zv, Ya, tup, tyf])
      clear hN5
      try clear N5
      refine Yf ?_
      simp (maxSteps := 2000000) only [s56, ↓Za, ↓Zk, ↓Zs, ↓Zf, ↓Zn, ↓Zt, ↓Ze, ↓Zj, ↓Zg, ↓Zb, ↓Zc, ↓vdn, vup, Zl, Zh, Zi, Zm, Zo, List.map_cons, List.map_nil, cond_true, cond_false, aop, Zw, Zr, Zp, ev, sput, Zu, Zz, Yb, unK, Zd, Zx, Nat.reduceBEq, Nat.reduceAdd, Int.reduceBEq, Int.reduceBNe, Int.reduceLT, Zv, Ya, tup, tyf, litI1]
      refine hs.push (by rw [List.length_map]; have := clqTo_len xs t; omega) fun v' h' s' => ?_
      exact fin v' h' (by rw [clqTo_yes ht1 hc, List.map_append]; exact s') _ (by simp (maxSteps := 2000000) only [↓Za, ↓Zk, ↓Zs, ↓Zf, ↓Zn, ↓Zt, ↓Ze, ↓Zj, ↓Zg, ↓Zb, ↓Zc, ↓vdn, vup, Zl, Zh, Zi, Zm, Zo, List.map_cons, List.map_nil, cond_true, cond_false, aop, Zw, Zr, Zp, ev, sput, Zu, Zz, Yb, unK, Zd, Zx, Nat.reduceBEq, Nat.reduceAdd, Int.reduceBEq, Int.reduceBNe, Int.reduceLT, Zv, Ya, tup, tyf])
  · obtain rfl : t = M := by omega
    have hle : ¬ ((t : Nat) : Int) ≤ ((t - 1 : Nat) : Int) := by omega
    refine Yc fun N6 hN6 => ?_
    simp (maxSteps := 2000000) only [s56, ↓Za, ↓Zk, ↓Zs, ↓Zf, ↓Zn, ↓Zt, ↓Ze, ↓Zj, ↓Zg, ↓Zb, ↓Zc, ↓vdn, vup, Zl, Zh, Zi, Zm, Zo, List.map_cons, List.map_nil, cond_true, cond_false, aop, Zw, Zr, Zp, ev, sput, Zu, Zz, Yb, unK, Zd, Zx, Nat.reduceBEq, Nat.reduceAdd, Int.reduceBEq, Int.reduceBNe, Int.reduceLT, Zv, Ya, tup, tyf, Yy, List.nil_append, List.append_nil, List.toList_toArray, List.cons_append]
    refine (all_call hv1 h6 hM).mono ?_
    rintro _ hp ⟨rfl, rfl⟩
    simp (maxSteps := 2000000) only [s56, ↓Za, ↓Zk, ↓Zs, ↓Zf, ↓Zn, ↓Zt, ↓Ze, ↓Zj, ↓Zg, ↓Zb, ↓Zc, ↓vdn, vup, Zl, Zh, Zi, Zm, Zo, List.map_cons, List.map_nil, cond_true, cond_false, aop, Zw, Zr, Zp, ev, sput, Zu, Zz, Yb, unK, Zd, Zx, Nat.reduceBEq, Nat.reduceAdd, Int.reduceBEq, Int.reduceBNe, Int.reduceLT, Zv, Ya, tup, tyf, hle]
    refine hQ2 _ _ _ (hQ _ _ _ ?_)
    simp (maxSteps := 2000000) only [s56, ↓Za, ↓Zk, ↓Zs, ↓Zf, ↓Zn, ↓Zt, ↓Ze, ↓Zj, ↓Zg, ↓Zb, ↓Zc, ↓vdn, vup, Zl, Zh, Zi, Zm, Zo, List.map_cons, List.map_nil, cond_true, cond_false, aop, Zw, Zr, Zp, ev, sput, Zu, Zz, Yb, unK, Zd, Zx, Nat.reduceBEq, Nat.reduceAdd, Int.reduceBEq, Int.reduceBNe, Int.reduceLT, Zv, Ya, tup, tyf, if_true]
    refine hZ [(0, v), (2, .slice none 0 0), (3, ov), (4, Zy t)] _ _ ?_ (by simp (maxSteps := 2000000) only [↓Za, ↓Zk, ↓Zs, ↓Zf, ↓Zn, ↓Zt, ↓Ze, ↓Zj, ↓Zg, ↓Zb, ↓Zc, ↓vdn, vup, Zl, Zh, Zi, Zm, Zo, List.map_cons, List.map_nil, cond_true, cond_false, aop, Zw, Zr, Zp, ev, sput, Zu, Zz, Yb, unK, Zd, Zx, Nat.reduceBEq, Nat.reduceAdd, Int.reduceBEq, Int.reduceBNe, Int.reduceLT, Zv, Ya, tup, tyf])
    clear hZ
    try clear Z
    refine Yf ?_
    simp (maxSteps := 2000000) only [s56, ↓Za, ↓Zk, ↓Zs, ↓Zf, ↓Zn, ↓Zt, ↓Ze, ↓Zj, ↓Zg, ↓Zb, ↓Zc, ↓vdn, vup, Zl, Zh, Zi, Zm, Zo, List.map_cons, List.map_nil, cond_true, cond_false, aop, Zw, Zr, Zp, ev, sput, Zu, Zz, Yb, unK, Zd, Zx, Nat.reduceBEq, Nat.reduceAdd, Int.reduceBEq, Int.reduceBNe, Int.reduceLT, Zv, Ya, tup, tyf, noGo_ret]
    rw [clq, hM]
    exact hs

end Go.Proofs.Tryd.Am

namespace Go.Proofs.Tryd.Am
open Go.Am Sr
set_option maxRecDepth 100000
set_option maxHeartbeats 1000000

def mn (a b : Nat) : Nat := if b < a then b else a
def cvS (s : Nat) (L : List Nat) (c : Nat) : List Nat := if c &&& s = 0 then L else L.set s (mn (L.getD s 0) (1 + L.getD (less s c) 0))
def cvJ (C : List Nat) (n s : Nat) (L : List Nat) (j : Nat) : List Nat := (C.take j).foldl (cvS s) (L.set s n)
def cvAt (C : List Nat) (n M : Nat) : Nat → List Nat
  | 0 => List.replicate M 0
  | k + 1 => cvJ C n (k + 1) (cvAt C n M k) C.length
def cov (xs : List Int) : Nat := (cvAt (clq xs) xs.length (2 ^ xs.length) (2 ^ xs.length - 1)).getD (2 ^ xs.length - 1) 0
theorem getD_setN {L : List Nat} {s x i : Nat} (hs : s < L.length) : (L.set s x).getD i 0 = if i = s then x else L.getD i 0 := by
  rw [List.getD, List.getElem?_set]
  by_cases h : s = i
  · subst h; simp [hs]
  · rw [if_neg h, if_neg (Ne.symm h)]; rfl
structure CvB (M n : Nat) (L : List Nat) : Prop where
  len : L.length = M
  le : ∀ i, L.getD i 0 ≤ n
theorem CvB.set {M n s x : Nat} {L : List Nat} (b : CvB M n L) (hs : s < M) (hx : x ≤ n) : CvB M n (L.set s x) :=
  ⟨by rw [List.length_set]; exact b.len, fun i => by rw [getD_setN (by rw [b.len]; exact hs)]; split; exact hx; exact b.le i⟩
theorem CvB.step {M n s : Nat} {L : List Nat} (b : CvB M n L) (hs : s < M) (c : Nat) : CvB M n (cvS s L c) := by
  unfold cvS
  split
  · exact b
  · refine b.set hs ?_
    have := b.le s
    unfold mn; split <;> omega
theorem cvJ_zero (C : List Nat) (n s : Nat) (L : List Nat) : cvJ C n s L 0 = L.set s n := by rw [cvJ, List.take_zero]; rfl
theorem cvJ_succ {C : List Nat} (n s : Nat) (L : List Nat) {j : Nat} (hj : j < C.length) : cvJ C n s L (j + 1) = cvS s (cvJ C n s L j) (C.getD j 0) := by
  rw [cvJ, List.take_succ_eq_append_getElem hj, List.foldl_append, cvJ, List.getD, List.getElem?_eq_getElem hj]; rfl
theorem CvB.run {C : List Nat} {M n s : Nat} {L : List Nat} (b : CvB M n L) (hs : s < M) : ∀ j, j ≤ C.length → CvB M n (cvJ C n s L j)
  | 0, _ => by rw [cvJ_zero]; exact b.set hs (Nat.le_refl _)
  | j + 1, h => by rw [cvJ_succ n s L (by omega)]; exact (b.run hs j (by omega)).step hs _
theorem cvB_at (C : List Nat) (n M : Nat) : ∀ k, k < M → CvB M n (cvAt C n M k)
  | 0, _ => ⟨by simp [cvAt], fun i => by
    rw [cvAt, List.getD]
    by_cases h : i < M
    · simp [h]
    · simp [Nat.le_of_not_lt h]⟩
  | k + 1, h => (cvB_at C n M k (by omega)).run h _ (Nat.le_refl _)
abbrev iL (L : List Nat) : List Int := L.map Int.ofNat
theorem iL_len (L : List Nat) : (iL L).length = L.length := by simp
theorem iL_get (L : List Nat) (i : Nat) : (iL L).getD i 0 = ((L.getD i 0 : Nat) : Int) := by
  rw [List.getD, List.getElem?_map, List.getD]; cases L[i]? <;> rfl
theorem iL_set (L : List Nat) (i x : Nat) : (iL L).set i ((x : Nat) : Int) = iL (L.set i x) := by simp only [iL, List.map_set]; rfl
theorem clq_lt {xs : List Int} {j : Nat} (hj : j < (clq xs).length) : (clq xs).getD j 0 < 2 ^ xs.length := by
  have hm : (clq xs).getD j 0 ∈ clq xs := by rw [List.getD, List.getElem?_eq_getElem hj]; exact List.getElem_mem hj
  rw [clq, clqTo, List.mem_filter, List.mem_range] at hm
  exact hm.1
theorem bneZ {a : Nat} : (((a : Nat) : Int) != 0) = !(a == 0) := bneN (b := 0)
theorem mnI (a b : Nat) : (if ((b : Nat) : Int) < ((a : Nat) : Int) then ((b : Nat) : Int) else ((a : Nat) : Int)) = ((mn a b : Nat) : Int) := by
  unfold mn
  by_cases h : b < a
  · rw [if_pos h, if_pos (by omega)]
  · rw [if_neg h, if_neg (by omega)]

abbrev tv (b M : Nat) : Value := .slice (some ⟨b, 0, none⟩) M M
section tab
variable {hp : Yd} {b M : Nat} {L : List Nat}
theorem tab_idx (hb : hp[b]? = some (.ints (iL L) 3 false)) (hL : L.length = M) {i : Nat} (hi : i < M) {K : Value → Prop} : Xf prog 22 (tv b M) (Zy i) K = K (.pointer (some ⟨b, i, none⟩)) := by
  have h1 := intSl_blk hb
  rw [iL_len, hL] at h1
  rw [h1.idx Xv Xi (by rw [iL_len, hL]; exact hi), elemP_new]
theorem tab_load (hb : hp[b]? = some (.ints (iL L) 3 false)) (hL : L.length = M) {i : Nat} (hi : i < M) {K : Value → Prop} : Xt prog hp 3 (.pointer (some ⟨b, i, none⟩)) K = K (Zy (L.getD i 0 : Nat)) := by
  have h1 := intSl_blk hb
  rw [iL_len, hL] at h1
  have := h1.load Xl (i := i) (by rw [iL_len, hL]; exact hi) K
  rw [elemP_new, iL_get] at this
  exact this
theorem tab_store (hb : hp[b]? = some (.ints (iL L) 3 false)) (hL : L.length = M) {i x : Nat} (hi : i < M) {K : Yd → Prop} : Xu prog hp 3 (.pointer (some ⟨b, i, none⟩)) (Zy (x : Nat)) K = K (hp.set b (.ints (iL (L.set i x)) 3 false)) := by
  rw [storeBI hb Xl (by rw [iL_len, hL]; exact hi), iL_set]
end tab

theorem s28_callW [Tabs Tryd.prog] {args : List Value} {h : Yd} {Q : Value → Yd → Prop} (hsz : args.length ≤ 60) (hk : AWS Tryd.prog 60 s28 (Zv Tryd.prog [.tmp 2, .tmp 3] Q) (Zp 0 args) h) : ACall Tryd.prog 28 args h Q :=
  Wb Tryd.func28 rfl (enters_of Tryd.func28 (by kernel_rfl) rfl) rfl rfl (by decide) s28_strip s28_ok hsz hk
theorem cover_call [Tabs prog] {h : Yd} {v : Value} {xs : List Int} (hv : IntSl h v xs) (hl : xs.length < 9223372036854775808) (hx : ∀ x ∈ xs, -9223372036854775808 ≤ x ∧ x < 9223372036854775808) :
    ACall prog 28 [v] h fun r h' => Ext (fun _ => False) h h' ∧ r = if grs xs = true then .tuple #[Zy (cov xs : Nat), .int .i64 0] else .tuple #[.int .i64 0, .int .i64 2] := by
  refine s28_callW (by simp) ?_
  simp only [s28]
  refine Yc fun N1 hN1 => ?_
  simp (maxSteps := 2000000) only [s28, ↓Za, ↓Zk, ↓Zs, ↓Zf, ↓Zn, ↓Zt, ↓Ze, ↓Zj, ↓Zg, ↓Zb, ↓Zc, ↓vdn, vup, Zl, Zh, Zi, Zm, Zo, List.map_cons, List.map_nil, cond_true, cond_false, aop, Zw, Zr, Zp, ev, sput, Zu, Zz, Yb, unK, Zd, Zx, Nat.reduceBEq, Nat.reduceAdd, Int.reduceBEq, Int.reduceBNe, Int.reduceLT, Zv, Ya, tup, tyf]
  refine hN1 [(0, v), (2, .int .i64 0)] _ _ ?_ (by simp (maxSteps := 2000000) only [↓Za, ↓Zk, ↓Zs, ↓Zf, ↓Zn, ↓Zt, ↓Ze, ↓Zj, ↓Zg, ↓Zb, ↓Zc, ↓vdn, vup, Zl, Zh, Zi, Zm, Zo, List.map_cons, List.map_nil, cond_true, cond_false, aop, Zw, Zr, Zp, ev, sput, Zu, Zz, Yb, unK, Zd, Zx, Nat.reduceBEq, Nat.reduceAdd, Int.reduceBEq, Int.reduceBNe, Int.reduceLT, Zv, Ya, tup, tyf])
  clear hN1
  try clear N1
  refine Yc fun N2 hN2 => ?_
  simp (maxSteps := 2000000) only [s28, ↓Za, ↓Zk, ↓Zs, ↓Zf, ↓Zn, ↓Zt, ↓Ze, ↓Zj, ↓Zg, ↓Zb, ↓Zc, ↓vdn, vup, Zl, Zh, Zi, Zm, Zo, List.map_cons, List.map_nil, cond_true, cond_false, aop, Zw, Zr, Zp, ev, sput, Zu, Zz, Yb, unK, Zd, Zx, Nat.reduceBEq, Nat.reduceAdd, Int.reduceBEq, Int.reduceBNe, Int.reduceLT, Zv, Ya, tup, tyf]
  refine hN2 [(0, v), (2, .int .i64 0), (4, v)] _ _ ?_ (by simp (maxSteps := 2000000) only [↓Za, ↓Zk, ↓Zs, ↓Zf, ↓Zn, ↓Zt, ↓Ze, ↓Zj, ↓Zg, ↓Zb, ↓Zc, ↓vdn, vup, Zl, Zh, Zi, Zm, Zo, List.map_cons, List.map_nil, cond_true, cond_false, aop, Zw, Zr, Zp, ev, sput, Zu, Zz, Yb, unK, Zd, Zx, Nat.reduceBEq, Nat.reduceAdd, Int.reduceBEq, Int.reduceBNe, Int.reduceLT, Zv, Ya, tup, tyf])
  clear hN2
  try clear N2
  refine Yc fun N3 hN3 => ?_
  simp (maxSteps := 2000000) only [s28, ↓Za, ↓Zk, ↓Zs, ↓Zf, ↓Zn, ↓Zt, ↓Ze, ↓Zj, ↓Zg, ↓Zb, ↓Zc, ↓vdn, vup, Zl, Zh, Zi, Zm, Zo, List.map_cons, List.map_nil, cond_true, cond_false, aop, Zw, Zr, Zp, ev, sput, Zu, Zz, Yb, unK, Zd, Zx, Nat.reduceBEq, Nat.reduceAdd, Int.reduceBEq, Int.reduceBNe, Int.reduceLT, Zv, Ya, tup, tyf, Yy, List.nil_append, List.append_nil, List.toList_toArray, List.cons_append]
  refine (valid_call hv hl hx).mono ?_
  rintro _ h ⟨rfl, rfl⟩
  cases hg : grs xs with
  | false =>
    simp (maxSteps := 2000000) only [s28, ↓Za, ↓Zk, ↓Zs, ↓Zf, ↓Zn, ↓Zt, ↓Ze, ↓Zj, ↓Zg, ↓Zb, ↓Zc, ↓vdn, vup, Zl, Zh, Zi, Zm, Zo, List.map_cons, List.map_nil, cond_true, cond_false, aop, Zw, Zr, Zp, ev, sput, Zu, Zz, Yb, unK, Zd, Zx, Nat.reduceBEq, Nat.reduceAdd, Int.reduceBEq, Int.reduceBNe, Int.reduceLT, Zv, Ya, tup, tyf, Bool.not_false]
    exact ⟨Ext.refl _ _, by simp⟩
  | true =>
  have g := grs_iff.1 hg
  have h6 := g.2.1
  have h64 := pow6N h6
  have hp0 := Nat.two_pow_pos xs.length
  have hclt := fun j (hj : j < (clq xs).length) => clq_lt hj
  obtain ⟨M, hM⟩ : ∃ M, 2 ^ xs.length = M := ⟨_, rfl⟩
  have hcov : cov xs = (cvAt (clq xs) xs.length M (M - 1)).getD (M - 1) 0 := by rw [cov, hM]
  have hcl := clqTo_len xs (2 ^ xs.length)
  change (clq xs).length ≤ _ at hcl
  rw [hM] at h64 hp0 hcl
  simp only [hM] at hclt
  generalize hC : clq xs = C at hclt hcov hcl
  simp (maxSteps := 2000000) only [s28, ↓Za, ↓Zk, ↓Zs, ↓Zf, ↓Zn, ↓Zt, ↓Ze, ↓Zj, ↓Zg, ↓Zb, ↓Zc, ↓vdn, vup, Zl, Zh, Zi, Zm, Zo, List.map_cons, List.map_nil, cond_true, cond_false, aop, Zw, Zr, Zp, ev, sput, Zu, Zz, Yb, unK, Zd, Zx, Nat.reduceBEq, Nat.reduceAdd, Int.reduceBEq, Int.reduceBNe, Int.reduceLT, Zv, Ya, tup, tyf, Bool.not_true]
  refine hN3 [(0, v), (2, .int .i64 0), (4, v)] _ _ ?_ (by simp (maxSteps := 2000000) only [↓Za, ↓Zk, ↓Zs, ↓Zf, ↓Zn, ↓Zt, ↓Ze, ↓Zj, ↓Zg, ↓Zb, ↓Zc, ↓vdn, vup, Zl, Zh, Zi, Zm, Zo, List.map_cons, List.map_nil, cond_true, cond_false, aop, Zw, Zr, Zp, ev, sput, Zu, Zz, Yb, unK, Zd, Zx, Nat.reduceBEq, Nat.reduceAdd, Int.reduceBEq, Int.reduceBNe, Int.reduceLT, Zv, Ya, tup, tyf])
  clear hN3
  try clear N3
  have hmk : (((M - 1 + 1 : Nat) : Int)) = ((M : Nat) : Int) := by omega
  refine Yc fun N4 hN4 => ?_
  simp (maxSteps := 2000000) only [s28, ↓Za, ↓Zk, ↓Zs, ↓Zf, ↓Zn, ↓Zt, ↓Ze, ↓Zj, ↓Zg, ↓Zb, ↓Zc, ↓vdn, vup, Zl, Zh, Zi, Zm, Zo, List.map_cons, List.map_nil, cond_true, cond_false, aop, Zw, Zr, Zp, ev, sput, Zu, Zz, Yb, unK, Zd, Zx, Nat.reduceBEq, Nat.reduceAdd, Int.reduceBEq, Int.reduceBNe, Int.reduceLT, Zv, Ya, tup, tyf, Yy, List.nil_append, List.append_nil, List.toList_toArray, List.cons_append]
  refine (all_call hv h6 hM).mono ?_
  rintro _ h ⟨rfl, rfl⟩
  simp (maxSteps := 2000000) only [s28, ↓Za, ↓Zk, ↓Zs, ↓Zf, ↓Zn, ↓Zt, ↓Ze, ↓Zj, ↓Zg, ↓Zb, ↓Zc, ↓vdn, vup, Zl, Zh, Zi, Zm, Zo, List.map_cons, List.map_nil, cond_true, cond_false, aop, Zw, Zr, Zp, ev, sput, Zu, Zz, Yb, unK, Zd, Zx, Nat.reduceBEq, Nat.reduceAdd, Int.reduceBEq, Int.reduceBNe, Int.reduceLT, Zv, Ya, tup, tyf, add1 (show M - 1 < 9223372036854775807 by omega), hmk, makeI Xv zero_3 info_3 (Int.natCast_nonneg M) (show ((M : Nat) : Int) ≤ 35184372088832 by omega), Int.toNat_natCast]
  refine hN4 [(0, v), (2, .int .i64 0), (4, v), (5, tv h.length M)] _ _ ?_ (by simp (maxSteps := 2000000) only [↓Za, ↓Zk, ↓Zs, ↓Zf, ↓Zn, ↓Zt, ↓Ze, ↓Zj, ↓Zg, ↓Zb, ↓Zc, ↓vdn, vup, Zl, Zh, Zi, Zm, Zo, List.map_cons, List.map_nil, cond_true, cond_false, aop, Zw, Zr, Zp, ev, sput, Zu, Zz, Yb, unK, Zd, Zx, Nat.reduceBEq, Nat.reduceAdd, Int.reduceBEq, Int.reduceBNe, Int.reduceLT, Zv, Ya, tup, tyf])
  clear hN4
  try clear N4
  refine Yc fun Z hZ => ?_
  simp (maxSteps := 2000000) only [s28, ↓Za, ↓Zk, ↓Zs, ↓Zf, ↓Zn, ↓Zt, ↓Ze, ↓Zj, ↓Zg, ↓Zb, ↓Zc, ↓vdn, vup, Zl, Zh, Zi, Zm, Zo, List.map_cons, List.map_nil, cond_true, cond_false, aop, Zw, Zr, Zp, ev, sput, Zu, Zz, Yb, unK, Zd, Zx, Nat.reduceBEq, Nat.reduceAdd, Int.reduceBEq, Int.reduceBNe, Int.reduceLT, Zv, Ya, tup, tyf, ↓Xd]
  refine Yh fun Q hQ => ?_
  have hr0 : List.replicate M (0 : Int) = iL (cvAt C xs.length M 0) := by simp [cvAt, iL]
  refine Xs (γ := Nat × Yd) (fun s => s.1 < M ∧ Ext (fun _ => False) h s.2 ∧ s.2[h.length]? = some (.ints (iL (cvAt C xs.length M s.1)) 3 false))
    (fun s => ([(0, v), (2, .int .i64 0), (4, v), (5, tv h.length M), (6, Zy (s.1 + 1 : Nat))], s.2)) (fun s => M - s.1) (0, _) ⟨hp0, Ext.app _ _ _, by rw [← hr0]; exact Xp _ _⟩ (by simp (maxSteps := 2000000) only [↓Za, ↓Zk, ↓Zs, ↓Zf, ↓Zn, ↓Zt, ↓Ze, ↓Zj, ↓Zg, ↓Zb, ↓Zc, ↓vdn, vup, Zl, Zh, Zi, Zm, Zo, List.map_cons, List.map_nil, cond_true, cond_false, aop, Zw, Zr, Zp, ev, sput, Zu, Zz, Yb, unK, Zd, Zx, Nat.reduceBEq, Nat.reduceAdd, Int.reduceBEq, Int.reduceBNe, Int.reduceLT, Zv, Ya, tup, tyf, Nat.zero_add, Int.natCast_one]) rfl ?_
  rintro ⟨k, hp⟩ ⟨hk, hE, hb⟩
  simp only at hk hE hb
  refine Yh fun Q2 hQ2 => ?_
  simp only [l28_1]
  obtain ⟨t, htk⟩ : ∃ t, k + 1 = t := ⟨_, rfl⟩
  rw [htk]
  have hv1 := Xn hv hE
  have hB := cvB_at C xs.length M k hk
  by_cases hin : t < M
  · have hle : ((t : Nat) : Int) ≤ ((M - 1 : Nat) : Int) := by omega
    refine Yc fun N5 hN5 => ?_
    simp (maxSteps := 2000000) only [s28, ↓Za, ↓Zk, ↓Zs, ↓Zf, ↓Zn, ↓Zt, ↓Ze, ↓Zj, ↓Zg, ↓Zb, ↓Zc, ↓vdn, vup, Zl, Zh, Zi, Zm, Zo, List.map_cons, List.map_nil, cond_true, cond_false, aop, Zw, Zr, Zp, ev, sput, Zu, Zz, Yb, unK, Zd, Zx, Nat.reduceBEq, Nat.reduceAdd, Int.reduceBEq, Int.reduceBNe, Int.reduceLT, Zv, Ya, tup, tyf, Yy, List.nil_append, List.append_nil, List.toList_toArray, List.cons_append]
    refine (all_call hv1 h6 hM).mono ?_
    rintro _ hp ⟨rfl, rfl⟩
    simp (maxSteps := 2000000) only [s28, ↓Za, ↓Zk, ↓Zs, ↓Zf, ↓Zn, ↓Zt, ↓Ze, ↓Zj, ↓Zg, ↓Zb, ↓Zc, ↓vdn, vup, Zl, Zh, Zi, Zm, Zo, List.map_cons, List.map_nil, cond_true, cond_false, aop, Zw, Zr, Zp, ev, sput, Zu, Zz, Yb, unK, Zd, Zx, Nat.reduceBEq, Nat.reduceAdd, Int.reduceBEq, Int.reduceBNe, Int.reduceLT, Zv, Ya, tup, tyf, hle]
    refine hN5 [(0, v), (2, .int .i64 0), (4, v), (5, tv h.length M), (6, Zy (t : Nat))] _ _ ?_ (by simp (maxSteps := 2000000) only [↓Za, ↓Zk, ↓Zs, ↓Zf, ↓Zn, ↓Zt, ↓Ze, ↓Zj, ↓Zg, ↓Zb, ↓Zc, ↓vdn, vup, Zl, Zh, Zi, Zm, Zo, List.map_cons, List.map_nil, cond_true, cond_false, aop, Zw, Zr, Zp, ev, sput, Zu, Zz, Yb, unK, Zd, Zx, Nat.reduceBEq, Nat.reduceAdd, Int.reduceBEq, Int.reduceBNe, Int.reduceLT, Zv, Ya, tup, tyf])
    clear hN5
    try clear N5
    refine Yg fun K hK => ?_
    refine Yo ?_
    refine Yc fun N6 hN6 => ?_
    simp (maxSteps := 2000000) only [s28, ↓Za, ↓Zk, ↓Zs, ↓Zf, ↓Zn, ↓Zt, ↓Ze, ↓Zj, ↓Zg, ↓Zb, ↓Zc, ↓vdn, vup, Zl, Zh, Zi, Zm, Zo, List.map_cons, List.map_nil, cond_true, cond_false, aop, Zw, Zr, Zp, ev, sput, Zu, Zz, Yb, unK, Zd, Zx, Nat.reduceBEq, Nat.reduceAdd, Int.reduceBEq, Int.reduceBNe, Int.reduceLT, Zv, Ya, tup, tyf, hv1.len, tab_idx hb hB.len hin, tab_store hb hB.len hin]
    refine hN6 [(0, v), (2, .int .i64 0), (4, v), (5, tv h.length M), (6, Zy (t : Nat))] _ _ ?_ (by simp (maxSteps := 2000000) only [↓Za, ↓Zk, ↓Zs, ↓Zf, ↓Zn, ↓Zt, ↓Ze, ↓Zj, ↓Zg, ↓Zb, ↓Zc, ↓vdn, vup, Zl, Zh, Zi, Zm, Zo, List.map_cons, List.map_nil, cond_true, cond_false, aop, Zw, Zr, Zp, ev, sput, Zu, Zz, Yb, unK, Zd, Zx, Nat.reduceBEq, Nat.reduceAdd, Int.reduceBEq, Int.reduceBNe, Int.reduceLT, Zv, Ya, tup, tyf])
    clear hN6
    try clear N6
    refine Yf ?_
    have hlt := Xg hb
    have hE1 := hE.set_ge (Nat.le_refl _) (.ints (iL ((cvAt C xs.length M k).set t xs.length)) 3 false)
    have hb1 : (hp.set h.length (.ints (iL ((cvAt C xs.length M k).set t xs.length)) 3 false))[h.length]? = some (.ints (iL (cvJ C xs.length t (cvAt C xs.length M k) 0)) 3 false) := by rw [cvJ_zero]; exact get_set hlt _
    generalize hp.set h.length (.ints (iL ((cvAt C xs.length M k).set t xs.length)) 3 false) = h1 at hE1 hb1
    have hv2 := Xn hv hE1
    simp (maxSteps := 2000000) only [s28, ↓Za, ↓Zk, ↓Zs, ↓Zf, ↓Zn, ↓Zt, ↓Ze, ↓Zj, ↓Zg, ↓Zb, ↓Zc, ↓vdn, vup, Zl, Zh, Zi, Zm, Zo, List.map_cons, List.map_nil, cond_true, cond_false, aop, Zw, Zr, Zp, ev, sput, Zu, Zz, Yb, unK, Zd, Zx, Nat.reduceBEq, Nat.reduceAdd, Int.reduceBEq, Int.reduceBNe, Int.reduceLT, Zv, Ya, tup, tyf, Yy, List.nil_append, List.append_nil, List.toList_toArray, List.cons_append]
    refine (cliques_call hv2 g).mono ?_
    rintro w h2 ⟨hw, hE2, hwb2⟩
    rw [hC] at hw
    have hb2 : h2[h.length]? = some (.ints (iL (cvJ C xs.length t (cvAt C xs.length M k) 0)) 3 false) := (hE2.2 _ (Xg hb1) id).trans hb1
    have hE3 := hE1.trans hE2
    simp (maxSteps := 2000000) only [s28, ↓Za, ↓Zk, ↓Zs, ↓Zf, ↓Zn, ↓Zt, ↓Ze, ↓Zj, ↓Zg, ↓Zb, ↓Zc, ↓vdn, vup, Zl, Zh, Zi, Zm, Zo, List.map_cons, List.map_nil, cond_true, cond_false, aop, Zw, Zr, Zp, ev, sput, Zu, Zz, Yb, unK, Zd, Zx, Nat.reduceBEq, Nat.reduceAdd, Int.reduceBEq, Int.reduceBNe, Int.reduceLT, Zv, Ya, tup, tyf, hw.int.len, iL_len, List.length_map, ↓Xd]
    refine Yh fun Q3 hQ3 => ?_
    refine Wt (γ := Nat × Yd) (fun s => s.1 ≤ C.length ∧ Ext (fun _ => False) h s.2 ∧ OwnSl 3 s.2 w (iL C) ∧ Yq w ≠ some h.length ∧ s.2[h.length]? = some (.ints (iL (cvJ C xs.length t (cvAt C xs.length M k) s.1)) 3 false))
      (fun s => ([(0, v), (2, .int .i64 0), (4, v), (5, tv h.length M), (6, Zy (t : Nat)), (29, w), (30, Zy C.length), (31, Zy s.1)], s.2)) (fun s => C.length - s.1) (0, h2) ⟨Nat.zero_le _, hE3, hw, ?_, hb2⟩ (by simp (maxSteps := 2000000) only [↓Za, ↓Zk, ↓Zs, ↓Zf, ↓Zn, ↓Zt, ↓Ze, ↓Zj, ↓Zg, ↓Zb, ↓Zc, ↓vdn, vup, Zl, Zh, Zi, Zm, Zo, List.map_cons, List.map_nil, cond_true, cond_false, aop, Zw, Zr, Zp, ev, sput, Zu, Zz, Yb, unK, Zd, Zx, Nat.reduceBEq, Nat.reduceAdd, Int.reduceBEq, Int.reduceBNe, Int.reduceLT, Zv, Ya, tup, tyf, Int.natCast_zero]) rfl ?_
    · intro hh
      have := hwb2 _ hh
      have := Xg hb1
      omega
    rintro ⟨j, hq⟩ ⟨hj, hEq, hwq, hwb, hbq⟩
    simp only at hj hEq hwq hbq
    refine Wr fun Q4 hQ4 => ?_
    have hBj := hB.run (C := C) hin j hj
    by_cases hjn : (j : Int) < C.length
    · have hj' : j < C.length := by omega
      have hj2 : j < (iL C).length := by rw [iL_len]; exact hj'
      have hcM := hclt j hj'
      have hlM : less t (C.getD j 0) < M := Nat.lt_of_le_of_lt (Sr.less_le _ _) hin
      have hsucc := cvJ_succ xs.length t (cvAt C xs.length M k) hj'
      have a1 := hBj.le (less t (C.getD j 0))
      have e1 : addV .i64 1 (((cvJ C xs.length t (cvAt C xs.length M k) j).getD (less t (C.getD j 0)) 0 : Nat) : Int) = ((1 + (cvJ C xs.length t (cvAt C xs.length M k) j).getD (less t (C.getD j 0)) 0 : Nat) : Int) := by rw [addV_id (by omega) (by omega)]; omega
      have hand := bitsV_and (a := C.getD j 0) (b := t) (by omega) (by omega)
      have hless := bitsV_andNot (a := t) (b := C.getD j 0) (by omega) (by omega)
      by_cases hz : C.getD j 0 &&& t = 0
      · have hb0 : (C.getD j 0 &&& t == 0) = true := beq_iff_eq.2 hz
        simp (maxSteps := 2000000) only [s28, ↓Za, ↓Zk, ↓Zs, ↓Zf, ↓Zn, ↓Zt, ↓Ze, ↓Zj, ↓Zg, ↓Zb, ↓Zc, ↓vdn, vup, Zl, Zh, Zi, Zm, Zo, List.map_cons, List.map_nil, cond_true, cond_false, aop, Zw, Zr, Zp, ev, sput, Zu, Zz, Yb, unK, Zd, Zx, Nat.reduceBEq, Nat.reduceAdd, Int.reduceBEq, Int.reduceBNe, Int.reduceLT, Zv, Ya, tup, tyf, l28_0, hjn, hwq.int.idx Xv Xi hj2, hwq.int.load Xl hj2, iL_get, hand, bneZ, hb0, Bool.not_true, add1 (show j < 9223372036854775807 by omega)]
        refine hQ4 _ _ _ ⟨(j + 1, hq), ⟨by simp only; omega, hEq, hwq, hwb, ?_⟩, by simp only; omega, by simp (maxSteps := 2000000) only [↓Za, ↓Zk, ↓Zs, ↓Zf, ↓Zn, ↓Zt, ↓Ze, ↓Zj, ↓Zg, ↓Zb, ↓Zc, ↓vdn, vup, Zl, Zh, Zi, Zm, Zo, List.map_cons, List.map_nil, cond_true, cond_false, aop, Zw, Zr, Zp, ev, sput, Zu, Zz, Yb, unK, Zd, Zx, Nat.reduceBEq, Nat.reduceAdd, Int.reduceBEq, Int.reduceBNe, Int.reduceLT, Zv, Ya, tup, tyf], rfl⟩
        simp only
        rw [hsucc, cvS, if_pos hz]; exact hbq
      · have hb0 : (C.getD j 0 &&& t == 0) = false := beq_eq_false_iff_ne.2 hz
        simp (maxSteps := 2000000) only [s28, ↓Za, ↓Zk, ↓Zs, ↓Zf, ↓Zn, ↓Zt, ↓Ze, ↓Zj, ↓Zg, ↓Zb, ↓Zc, ↓vdn, vup, Zl, Zh, Zi, Zm, Zo, List.map_cons, List.map_nil, cond_true, cond_false, aop, Zw, Zr, Zp, ev, sput, Zu, Zz, Yb, unK, Zd, Zx, Nat.reduceBEq, Nat.reduceAdd, Int.reduceBEq, Int.reduceBNe, Int.reduceLT, Zv, Ya, tup, tyf, l28_0, hjn, hwq.int.idx Xv Xi hj2, hwq.int.load Xl hj2, iL_get, hand, bneZ, hb0, Bool.not_false]
        refine Wc [] (by kernel_rfl) (by kernel_rfl) (by kernel_rfl) (by kernel_rfl) ?_
        simp (maxSteps := 2000000) only [s28, ↓Za, ↓Zk, ↓Zs, ↓Zf, ↓Zn, ↓Zt, ↓Ze, ↓Zj, ↓Zg, ↓Zb, ↓Zc, ↓vdn, vup, Zl, Zh, Zi, Zm, Zo, List.map_cons, List.map_nil, cond_true, cond_false, aop, Zw, Zr, Zp, ev, sput, Zu, Zz, Yb, unK, Zd, Zx, Nat.reduceBEq, Nat.reduceAdd, Int.reduceBEq, Int.reduceBNe, Int.reduceLT, Zv, Ya, tup, tyf, tab_idx hbq hBj.len hin, tab_load hbq hBj.len hin, hless, tab_idx hbq hBj.len hlM, tab_load hbq hBj.len hlM, e1, mmK, Bool.false_eq_true, if_false, gt_iff_lt, mnI, tab_store hbq hBj.len hin, add1 (show j < 9223372036854775807 by omega)]
        refine hQ4 _ _ _ ⟨(j + 1, _), ⟨by simp only; omega, hEq.set_ge (Nat.le_refl _) _, hwq.same fun b hb3 => List.getElem?_set_ne (fun he => hwb (hb3.trans (congrArg some he.symm))), hwb, ?_⟩, by simp only; omega, by simp (maxSteps := 2000000) only [↓Za, ↓Zk, ↓Zs, ↓Zf, ↓Zn, ↓Zt, ↓Ze, ↓Zj, ↓Zg, ↓Zb, ↓Zc, ↓vdn, vup, Zl, Zh, Zi, Zm, Zo, List.map_cons, List.map_nil, cond_true, cond_false, aop, Zw, Zr, Zp, ev, sput, Zu, Zz, Yb, unK, Zd, Zx, Nat.reduceBEq, Nat.reduceAdd, Int.reduceBEq, Int.reduceBNe, Int.reduceLT, Zv, Ya, tup, tyf], rfl⟩
        simp only
        rw [hsucc, cvS, if_neg hz]; exact get_set (Xg hbq) _
    · obtain rfl : j = C.length := by omega
      simp (maxSteps := 2000000) only [s28, ↓Za, ↓Zk, ↓Zs, ↓Zf, ↓Zn, ↓Zt, ↓Ze, ↓Zj, ↓Zg, ↓Zb, ↓Zc, ↓vdn, vup, Zl, Zh, Zi, Zm, Zo, List.map_cons, List.map_nil, cond_true, cond_false, aop, Zw, Zr, Zp, ev, sput, Zu, Zz, Yb, unK, Zd, Zx, Nat.reduceBEq, Nat.reduceAdd, Int.reduceBEq, Int.reduceBNe, Int.reduceLT, Zv, Ya, tup, tyf, l28_0, Int.lt_irrefl]
      refine hQ4 _ _ _ (hQ3 _ _ _ ?_)
      simp (maxSteps := 2000000) only [s28, ↓Za, ↓Zk, ↓Zs, ↓Zf, ↓Zn, ↓Zt, ↓Ze, ↓Zj, ↓Zg, ↓Zb, ↓Zc, ↓vdn, vup, Zl, Zh, Zi, Zm, Zo, List.map_cons, List.map_nil, cond_true, cond_false, aop, Zw, Zr, Zp, ev, sput, Zu, Zz, Yb, unK, Zd, Zx, Nat.reduceBEq, Nat.reduceAdd, Int.reduceBEq, Int.reduceBNe, Int.reduceLT, Zv, Ya, tup, tyf, if_true]
      refine hK [(0, v), (2, .int .i64 0), (4, v), (5, tv h.length M), (6, Zy (t : Nat))] _ _ ?_ (by simp (maxSteps := 2000000) only [↓Za, ↓Zk, ↓Zs, ↓Zf, ↓Zn, ↓Zt, ↓Ze, ↓Zj, ↓Zg, ↓Zb, ↓Zc, ↓vdn, vup, Zl, Zh, Zi, Zm, Zo, List.map_cons, List.map_nil, cond_true, cond_false, aop, Zw, Zr, Zp, ev, sput, Zu, Zz, Yb, unK, Zd, Zx, Nat.reduceBEq, Nat.reduceAdd, Int.reduceBEq, Int.reduceBNe, Int.reduceLT, Zv, Ya, tup, tyf])
      clear hK
      try clear K
      refine Yf ?_
      simp (maxSteps := 2000000) only [s28, ↓Za, ↓Zk, ↓Zs, ↓Zf, ↓Zn, ↓Zt, ↓Ze, ↓Zj, ↓Zg, ↓Zb, ↓Zc, ↓vdn, vup, Zl, Zh, Zi, Zm, Zo, List.map_cons, List.map_nil, cond_true, cond_false, aop, Zw, Zr, Zp, ev, sput, Zu, Zz, Yb, unK, Zd, Zx, Nat.reduceBEq, Nat.reduceAdd, Int.reduceBEq, Int.reduceBNe, Int.reduceLT, Zv, Ya, tup, tyf, add1 (show t < 9223372036854775807 by omega)]
      refine hQ2 _ _ _ ⟨(k + 1, hq), ⟨by simp only; omega, hEq, by simp only; rw [cvAt, htk]; exact hbq⟩, by simp only; omega, by simp (maxSteps := 2000000) only [↓Za, ↓Zk, ↓Zs, ↓Zf, ↓Zn, ↓Zt, ↓Ze, ↓Zj, ↓Zg, ↓Zb, ↓Zc, ↓vdn, vup, Zl, Zh, Zi, Zm, Zo, List.map_cons, List.map_nil, cond_true, cond_false, aop, Zw, Zr, Zp, ev, sput, Zu, Zz, Yb, unK, Zd, Zx, Nat.reduceBEq, Nat.reduceAdd, Int.reduceBEq, Int.reduceBNe, Int.reduceLT, Zv, Ya, tup, tyf, htk], rfl⟩
  · have hkM : k = M - 1 := by omega
    have hle : ¬ ((t : Nat) : Int) ≤ ((M - 1 : Nat) : Int) := by omega
    refine Yc fun N7 hN7 => ?_
    simp (maxSteps := 2000000) only [s28, ↓Za, ↓Zk, ↓Zs, ↓Zf, ↓Zn, ↓Zt, ↓Ze, ↓Zj, ↓Zg, ↓Zb, ↓Zc, ↓vdn, vup, Zl, Zh, Zi, Zm, Zo, List.map_cons, List.map_nil, cond_true, cond_false, aop, Zw, Zr, Zp, ev, sput, Zu, Zz, Yb, unK, Zd, Zx, Nat.reduceBEq, Nat.reduceAdd, Int.reduceBEq, Int.reduceBNe, Int.reduceLT, Zv, Ya, tup, tyf, Yy, List.nil_append, List.append_nil, List.toList_toArray, List.cons_append]
    refine (all_call hv1 h6 hM).mono ?_
    rintro _ hp ⟨rfl, rfl⟩
    simp (maxSteps := 2000000) only [s28, ↓Za, ↓Zk, ↓Zs, ↓Zf, ↓Zn, ↓Zt, ↓Ze, ↓Zj, ↓Zg, ↓Zb, ↓Zc, ↓vdn, vup, Zl, Zh, Zi, Zm, Zo, List.map_cons, List.map_nil, cond_true, cond_false, aop, Zw, Zr, Zp, ev, sput, Zu, Zz, Yb, unK, Zd, Zx, Nat.reduceBEq, Nat.reduceAdd, Int.reduceBEq, Int.reduceBNe, Int.reduceLT, Zv, Ya, tup, tyf, hle]
    refine hQ2 _ _ _ (hQ _ _ _ ?_)
    simp (maxSteps := 2000000) only [s28, ↓Za, ↓Zk, ↓Zs, ↓Zf, ↓Zn, ↓Zt, ↓Ze, ↓Zj, ↓Zg, ↓Zb, ↓Zc, ↓vdn, vup, Zl, Zh, Zi, Zm, Zo, List.map_cons, List.map_nil, cond_true, cond_false, aop, Zw, Zr, Zp, ev, sput, Zu, Zz, Yb, unK, Zd, Zx, Nat.reduceBEq, Nat.reduceAdd, Int.reduceBEq, Int.reduceBNe, Int.reduceLT, Zv, Ya, tup, tyf, if_true]
    refine hZ [(0, v), (2, .int .i64 0), (4, v), (5, tv h.length M), (6, Zy (t : Nat))] _ _ ?_ (by simp (maxSteps := 2000000) only [↓Za, ↓Zk, ↓Zs, ↓Zf, ↓Zn, ↓Zt, ↓Ze, ↓Zj, ↓Zg, ↓Zb, ↓Zc, ↓vdn, vup, Zl, Zh, Zi, Zm, Zo, List.map_cons, List.map_nil, cond_true, cond_false, aop, Zw, Zr, Zp, ev, sput, Zu, Zz, Yb, unK, Zd, Zx, Nat.reduceBEq, Nat.reduceAdd, Int.reduceBEq, Int.reduceBNe, Int.reduceLT, Zv, Ya, tup, tyf])
    clear hZ
    try clear Z
    refine Yf ?_
    have hm1 : M - 1 < M := by omega
    simp (maxSteps := 2000000) only [s28, ↓Za, ↓Zk, ↓Zs, ↓Zf, ↓Zn, ↓Zt, ↓Ze, ↓Zj, ↓Zg, ↓Zb, ↓Zc, ↓vdn, vup, Zl, Zh, Zi, Zm, Zo, List.map_cons, List.map_nil, cond_true, cond_false, aop, Zw, Zr, Zp, ev, sput, Zu, Zz, Yb, unK, Zd, Zx, Nat.reduceBEq, Nat.reduceAdd, Int.reduceBEq, Int.reduceBNe, Int.reduceLT, Zv, Ya, tup, tyf, Yy, List.nil_append, List.append_nil, List.toList_toArray, List.cons_append]
    refine (all_call hv1 h6 hM).mono ?_
    rintro _ hp ⟨rfl, rfl⟩
    simp (maxSteps := 2000000) only [s28, ↓Za, ↓Zk, ↓Zs, ↓Zf, ↓Zn, ↓Zt, ↓Ze, ↓Zj, ↓Zg, ↓Zb, ↓Zc, ↓vdn, vup, Zl, Zh, Zi, Zm, Zo, List.map_cons, List.map_nil, cond_true, cond_false, aop, Zw, Zr, Zp, ev, sput, Zu, Zz, Yb, unK, Zd, Zx, Nat.reduceBEq, Nat.reduceAdd, Int.reduceBEq, Int.reduceBNe, Int.reduceLT, Zv, Ya, tup, tyf, tab_idx hb hB.len hm1, tab_load hb hB.len hm1]
    refine ⟨hE, ?_⟩
    rw [hcov, hkM]
    simp [hg]

end Go.Proofs.Tryd.Am

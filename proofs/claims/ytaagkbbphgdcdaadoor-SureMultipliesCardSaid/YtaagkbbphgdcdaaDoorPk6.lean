/-
  sure: the graph of all words of some length.
  sure: how many words of a set can be in one code: the program's count.
  sure: the first greatest code, as the program finds it.
  Printed by gen.py: the code of some functions, without what no step looks at; held against the program's own by the kernel.
  sure: the sets of neighbours, by the program and by the reference.
  sure: how many sets of neighbours are needed: the program's and the reference's table.
  Printed by gen.py: the code of some functions, without what no step looks at; held against the program's own by the kernel.
  bets: fractions as rational numbers: parts of a common multiple. Plain Lean, no program.
  bets: the common multiple of fractions that sum to one: its square divides the product. Plain Lean, no program.
  bets: fractions as they are handed in; their common multiple; a forecast's is small. Plain Lean, no program.
  bets: forecasts as numbers. Plain Lean, no program.
-/
import Derived.Test.YtaagkbbphgdcdaaDoorPk5
import Derived.Test.YtaagkbbphgdcdaaDoorPk3
import Derived.Test.YtaagkbbphgdcdaaDoorProg
import Derived.KernelRfl
import Derived.Shelf.Abstract
import Derived.Test.YtaagkbbphgdcdaaDoorPk4
set_option linter.all false
namespace Go.Proofs.Tryd.Am
open Go.Am Sr
set_option maxRecDepth 100000
set_option maxHeartbeats 1000000

abbrev pt (b : Nat) : Value := .pointer (some ⟨b, 0, none⟩)
theorem set_last (g : Yd) (B C : Blk) : (g ++ [B]).set g.length C = g ++ [C] := by
  apply List.ext_getElem?
  intro i
  by_cases hi : i = g.length
  · subst hi; simp
  · rw [List.getElem?_set_ne (Ne.symm hi)]
    by_cases h2 : i < g.length
    · rw [List.getElem?_append_left h2, List.getElem?_append_left h2]
    · rw [List.getElem?_eq_none (by simp; omega), List.getElem?_eq_none (by simp; omega)]
theorem Ys {h h' : Yd} {v : Value} {xs : List Int} (hv : IntSl h v xs) (hE : Ext (fun _ => False) h h') : IntSl h' v xs := hv.same fun b hb => hE.2 b (hv.lt hb) id
theorem ownV_one {e : TypeId} {h : Yd} {v : Value} {ws : List Value} (ho : OwnV e h v ws) : one v = true := by
  rcases ho with ⟨rfl, _⟩ | ⟨b, ys, rfl, _⟩ <;> rfl
theorem litU {h : Yd} {s : Int} {K : Value → Yd → Prop} : Yt prog h 60 1 [(0, .int .u64 s)] K = K (.slice (some ⟨h.length, 0, none⟩) 1 1) (h ++ [.cells [.int .u64 s] 63 false]) := by
  have e1 : fillL (fun i => some (i * 1, 1)) (reps [.int .u64 0] 1) [(0, .int .u64 s)] = some [.int .u64 s] := by simp [fillL, Vh, cellsOf, reps, Yp]
  have e2 : mkb [.int .u64 s] 63 = .cells [.int .u64 s] 63 false := mkb_no (by simp) fun w' hw' => by
    rw [List.mem_singleton.1 hw']; rfl
  simp only [Yt, el_60, zero_63, esz_63, e1, e2]
  exact propext ⟨fun h => h.2.2.2, fun h => ⟨rfl, by decide, by decide, h⟩⟩
theorem litU_val (h : Yd) (s : Int) : ValSl (h ++ [.cells [.int .u64 s] 63 false]) (.slice (some ⟨h.length, 0, none⟩) 1 1) [.int .u64 s] :=
  .inr ⟨h.length, 0, none, 1, [.int .u64 s], 63, false, rfl, Nat.le_refl _, by simp [view, Blk.view], rfl⟩
theorem bld62 {K : Value → Prop} : buildK prog 62 [(0, .int .i64 1)] K = K (.agg #[.int .i64 1, .slice none 0 0]) := by
  simp [buildK, zero_62, fillL, pl_62_0, Vh, cellsOf, Yp]
theorem box62 {h : Yd} {a b : Value} {K : Value → Yd → Prop} : boxK prog h 62 (.agg #[a, b]) K = K (Xv h) (h ++ [.cells [a, b] 62 false]) := by
  simp [boxK, esz_62, cellsOf]

def WO (h : Yd) (b : Nat) (nr : List Nat) : Prop := ∃ nv, h[b]? = some (.cells [Zy nr.length, nv] 62 false) ∧ ValSl h nv (nr.map fun x => vu x)
theorem WO.ext {h h' : Yd} {b : Nat} {nr : List Nat} (w : WO h b nr) (hE : Ext (fun _ => False) h h') : WO h' b nr := by
  obtain ⟨nv, h1, h2⟩ := w
  exact ⟨nv, (hE.2 b (Yx h1) id).trans h1, h2.ext hE⟩

theorem words_call [Tabs prog] {h : Yd} {v : Value} {xs : List Int} (hv : IntSl h v xs) (g : Gs xs) {k : Nat} (hk : k ≤ 6) :
    ACall prog 52 [v, Zy k] h fun r h' => Ext (fun _ => False) h h' ∧ if wn xs k ≤ 64 then ∃ b, r = .tuple #[pt b, .bool true] ∧ WO h' b (Xr xs k) else r = .tuple #[.pointer none, .bool false] := by
  have h0 : 0 < xs.length := g.1
  have mono : ∀ i, i ≤ k → wn xs i ≤ wn xs k := fun i hi => Nat.pow_le_pow_right h0 hi
  have hb : ∀ i : Nat, (h ++ [Blk.cells [Zy (wn xs i : Nat), .slice none 0 0] 62 false])[h.length]? = some (.cells [Zy (wn xs i : Nat), .slice none 0 0] 62 false) := fun i => Xa _ _
  have ld : ∀ (i : Nat) {K : Value → Prop}, Xs prog (h ++ [Blk.cells [Zy (wn xs i : Nat), .slice none 0 0] 62 false]) 3 (.pointer (some ⟨h.length, 0, none⟩)) K = K (Zy (wn xs i : Nat)) := fun i {K} => loadC (o := 0) (hb i) Xj rfl
  have st : ∀ (i : Nat) {z : Int} {K : Yd → Prop}, Xp prog (h ++ [Blk.cells [Zy (wn xs i : Nat), .slice none 0 0] 62 false]) 3 (.pointer (some ⟨h.length, 0, none⟩)) (.int .i64 z) K = K (h ++ [Blk.cells [Zy z, .slice none 0 0] 62 false]) := fun i {z K} => by
    rw [storeC (hb i) Xj rfl (by simp), set_last]; rfl
  have hv1 : ∀ i : Nat, IntSl (h ++ [Blk.cells [Zy (wn xs i : Nat), .slice none 0 0] 62 false]) v xs := fun i => Ys hv (Ext.app (fun _ => False) h _)
  refine s52_call (by simp) ?_
  simp only [s52]
  refine aw_cut fun N hN => ?_
  simp (maxSteps := 2000000) only [s52, ↓Za, ↓Zk, ↓Zs, ↓Ze, ↓Zj, ↓Zt, ↓Zg, ↓Zm, ↓Zf, ↓Zc, ↓Zb, ↓vdn, vup, Zo, Zh, Zi, Zn, Zl, List.map_cons, List.map_nil, cond_true, cond_false, aop, Zw, Zr, Zp, ev, sput, Zu, Zz, Yb, unK, Zd, Zx, Nat.reduceBEq, Nat.reduceAdd, Int.reduceBEq, Int.reduceBNe, Int.reduceLT, Zv, Ya, tup, tyf]
  refine hN _ _ ?_
  clear hN N
  refine aw_cut fun N hN => ?_
  simp (maxSteps := 2000000) only [s52, ↓Za, ↓Zk, ↓Zs, ↓Ze, ↓Zj, ↓Zt, ↓Zg, ↓Zm, ↓Zf, ↓Zc, ↓Zb, ↓vdn, vup, Zo, Zh, Zi, Zn, Zl, List.map_cons, List.map_nil, cond_true, cond_false, aop, Zw, Zr, Zp, ev, sput, Zu, Zz, Yb, unK, Zd, Zx, Nat.reduceBEq, Nat.reduceAdd, Int.reduceBEq, Int.reduceBNe, Int.reduceLT, Zv, Ya, tup, tyf, bld62, box62, Xv]
  refine hN _ _ ?_
  clear hN N
  refine aw_cut fun N hN => ?_
  simp (maxSteps := 2000000) only [s52, ↓Za, ↓Zk, ↓Zs, ↓Ze, ↓Zj, ↓Zt, ↓Zg, ↓Zm, ↓Zf, ↓Zc, ↓Zb, ↓vdn, vup, Zo, Zh, Zi, Zn, Zl, List.map_cons, List.map_nil, cond_true, cond_false, aop, Zw, Zr, Zp, ev, sput, Zu, Zz, Yb, unK, Zd, Zx, Nat.reduceBEq, Nat.reduceAdd, Int.reduceBEq, Int.reduceBNe, Int.reduceLT, Zv, Ya, tup, tyf, ↓Xc]
  refine Yg fun Q hQ => ?_
  refine Wp (γ := Nat) (fun i => i ≤ k ∧ wn xs i ≤ 64)
    (fun i => ([(0, v), (1, Zy k), (4, .pointer none), (5, .bool false), (6, pt h.length), (12, Zy k), (13, Zy i)], h ++ [Blk.cells [Zy (wn xs i : Nat), .slice none 0 0] 62 false])) (fun i => k - i) 0 ⟨Nat.zero_le _, by show 1 ≤ 64; decide⟩ (by simp (maxSteps := 2000000) only [↓Za, ↓Zk, ↓Zs, ↓Ze, ↓Zj, ↓Zt, ↓Zg, ↓Zm, ↓Zf, ↓Zc, ↓Zb, ↓vdn, vup, Zo, Zh, Zi, Zn, Zl, List.map_cons, List.map_nil, cond_true, cond_false, aop, Zw, Zr, Zp, ev, sput, Zu, Zz, Yb, unK, Zd, Zx, Nat.reduceBEq, Nat.reduceAdd, Int.reduceBEq, Int.reduceBNe, Int.reduceLT, Zv, Ya, tup, tyf, Int.natCast_zero]) rfl ?_
  rintro i ⟨hi, hw⟩
  refine Wo fun Q2 hQ2 => ?_
  by_cases hin : (i : Int) < k
  · have hi' : i < k := by omega
    have e : wn xs i * xs.length = wn xs (i + 1) := (Nat.pow_succ ..).symm
    have h6 := g.2.1
    have hle := wn_le g (show i + 1 ≤ 6 by omega)
    have hm : mulV .i64 ((wn xs i : Nat) : Int) ((xs.length : Nat) : Int) = ((wn xs (i + 1) : Nat) : Int) := by
      rw [mulN (by rw [e]; omega), e]
    by_cases hbig : 64 < wn xs (i + 1)
    · have hb2 : (64 : Int) < ((wn xs (i + 1) : Nat) : Int) := by omega
      simp (maxSteps := 2000000) only [s52, ↓Za, ↓Zk, ↓Zs, ↓Ze, ↓Zj, ↓Zt, ↓Zg, ↓Zm, ↓Zf, ↓Zc, ↓Zb, ↓vdn, vup, Zo, Zh, Zi, Zn, Zl, List.map_cons, List.map_nil, cond_true, cond_false, aop, Zw, Zr, Zp, ev, sput, Zu, Zz, Yb, unK, Zd, Zx, Nat.reduceBEq, Nat.reduceAdd, Int.reduceBEq, Int.reduceBNe, Int.reduceLT, Zv, Ya, tup, tyf, l52_0, hin, nilK, fldA fld_62_0 Xk, ld i, (hv1 i).len, hm, st i, ld (i + 1), gt_iff_lt, hb2]
      refine hQ2 _ _ _ (hQ _ _ _ ?_)
      simp (maxSteps := 2000000) only [s52, ↓Za, ↓Zk, ↓Zs, ↓Ze, ↓Zj, ↓Zt, ↓Zg, ↓Zm, ↓Zf, ↓Zc, ↓Zb, ↓vdn, vup, Zo, Zh, Zi, Zn, Zl, List.map_cons, List.map_nil, cond_true, cond_false, aop, Zw, Zr, Zp, ev, sput, Zu, Zz, Yb, unK, Zd, Zx, Nat.reduceBEq, Nat.reduceAdd, Int.reduceBEq, Int.reduceBNe, Int.reduceLT, Zv, Ya, tup, tyf]
      have := mono (i + 1) (by omega)
      rw [if_neg (by omega)]
      exact ⟨Ext.app _ _ _, trivial⟩
    · have hb2 : ¬ (64 : Int) < ((wn xs (i + 1) : Nat) : Int) := by omega
      simp (maxSteps := 2000000) only [s52, ↓Za, ↓Zk, ↓Zs, ↓Ze, ↓Zj, ↓Zt, ↓Zg, ↓Zm, ↓Zf, ↓Zc, ↓Zb, ↓vdn, vup, Zo, Zh, Zi, Zn, Zl, List.map_cons, List.map_nil, cond_true, cond_false, aop, Zw, Zr, Zp, ev, sput, Zu, Zz, Yb, unK, Zd, Zx, Nat.reduceBEq, Nat.reduceAdd, Int.reduceBEq, Int.reduceBNe, Int.reduceLT, Zv, Ya, tup, tyf, l52_0, hin, nilK, fldA fld_62_0 Xk, ld i, (hv1 i).len, hm, st i, ld (i + 1), gt_iff_lt, hb2, add1 (show i < 9223372036854775807 by omega)]
      exact hQ2 _ _ _ ⟨i + 1, ⟨by omega, by omega⟩, by omega, by simp (maxSteps := 2000000) only [↓Za, ↓Zk, ↓Zs, ↓Ze, ↓Zj, ↓Zt, ↓Zg, ↓Zm, ↓Zf, ↓Zc, ↓Zb, ↓vdn, vup, Zo, Zh, Zi, Zn, Zl, List.map_cons, List.map_nil, cond_true, cond_false, aop, Zw, Zr, Zp, ev, sput, Zu, Zz, Yb, unK, Zd, Zx, Nat.reduceBEq, Nat.reduceAdd, Int.reduceBEq, Int.reduceBNe, Int.reduceLT, Zv, Ya, tup, tyf], rfl⟩
  · obtain rfl : i = k := by omega
    simp (maxSteps := 2000000) only [s52, ↓Za, ↓Zk, ↓Zs, ↓Ze, ↓Zj, ↓Zt, ↓Zg, ↓Zm, ↓Zf, ↓Zc, ↓Zb, ↓vdn, vup, Zo, Zh, Zi, Zn, Zl, List.map_cons, List.map_nil, cond_true, cond_false, aop, Zw, Zr, Zp, ev, sput, Zu, Zz, Yb, unK, Zd, Zx, Nat.reduceBEq, Nat.reduceAdd, Int.reduceBEq, Int.reduceBNe, Int.reduceLT, Zv, Ya, tup, tyf, l52_0, Int.lt_irrefl]
    refine hQ2 _ _ _ (hQ _ _ _ ?_)
    simp (maxSteps := 2000000) only [s52, ↓Za, ↓Zk, ↓Zs, ↓Ze, ↓Zj, ↓Zt, ↓Zg, ↓Zm, ↓Zf, ↓Zc, ↓Zb, ↓vdn, vup, Zo, Zh, Zi, Zn, Zl, List.map_cons, List.map_nil, cond_true, cond_false, aop, Zw, Zr, Zp, ev, sput, Zu, Zz, Yb, unK, Zd, Zx, Nat.reduceBEq, Nat.reduceAdd, Int.reduceBEq, Int.reduceBNe, Int.reduceLT, Zv, Ya, tup, tyf, if_true]
    refine hN _ _ ?_
    clear hN N hQ2 Q2 hQ Q
    refine aw_cut fun N hN => ?_
    simp (maxSteps := 2000000) only [s52, ↓Za, ↓Zk, ↓Zs, ↓Ze, ↓Zj, ↓Zt, ↓Zg, ↓Zm, ↓Zf, ↓Zc, ↓Zb, ↓vdn, vup, Zo, Zh, Zi, Zn, Zl, List.map_cons, List.map_nil, cond_true, cond_false, aop, Zw, Zr, Zp, ev, sput, Zu, Zz, Yb, unK, Zd, Zx, Nat.reduceBEq, Nat.reduceAdd, Int.reduceBEq, Int.reduceBNe, Int.reduceLT, Zv, Ya, tup, tyf, nilK, fldA fld_62_0 Xk, ld i, ↓Xc]
    refine Yg fun Q hQ => ?_
    refine Wp (γ := Nat × Yd × Value) (fun s => s.1 ≤ wn xs i ∧ Ext (fun _ => False) h s.2.1 ∧ s.2.1[h.length]? = some (.cells [Zy (wn xs i : Nat), s.2.2] 62 false) ∧ OwnV 63 s.2.1 s.2.2 (((List.range s.1).map (nearW xs i)).map fun x => vu x) ∧ ∀ b, Yq s.2.2 = some b → h.length < b)
      (fun s => ([(0, v), (1, Zy i), (4, .pointer none), (5, .bool false), (6, pt h.length), (33, Zy (wn xs i : Nat)), (34, Zy s.1)], s.2.1)) (fun s => wn xs i - s.1) (0, _, .slice none 0 0)
      ⟨Nat.zero_le _, Ext.app _ _ _, hb i, .inl ⟨rfl, rfl⟩, fun b h => by cases h⟩ (by simp (maxSteps := 2000000) only [↓Za, ↓Zk, ↓Zs, ↓Ze, ↓Zj, ↓Zt, ↓Zg, ↓Zm, ↓Zf, ↓Zc, ↓Zb, ↓vdn, vup, Zo, Zh, Zi, Zn, Zl, List.map_cons, List.map_nil, cond_true, cond_false, aop, Zw, Zr, Zp, ev, sput, Zu, Zz, Yb, unK, Zd, Zx, Nat.reduceBEq, Nat.reduceAdd, Int.reduceBEq, Int.reduceBNe, Int.reduceLT, Zv, Ya, tup, tyf, Int.natCast_zero]) rfl ?_
    rintro ⟨a, hp, nv⟩ ⟨ha, hE, hc, ho, hbl⟩
    simp only at ha hE hc ho hbl
    refine Wo fun Q2 hQ2 => ?_
    have ldp : ∀ {K : Value → Prop}, Xs prog hp 3 (.pointer (some ⟨h.length, 0, none⟩)) K = K (Zy (wn xs i : Nat)) := fun {K} => loadC (o := 0) hc Xj rfl
    have ldn : ∀ {K : Value → Prop}, Xs prog hp 60 (.pointer (some ⟨h.length, 1, none⟩)) K = K nv := fun {K} => loadC (o := 1) hc shp_60 rfl
    by_cases hin : (a : Int) < (wn xs i : Nat)
    · have ha' : a < wn xs i := by omega
      obtain ⟨p, hp'⟩ : ∃ p : Nat → Bool, p = fun b => a != b && cf xs i a b := ⟨_, rfl⟩
      have hmk : ∀ j, mk p j < 2 ^ j := mk_lt p
      simp (maxSteps := 2000000) only [s52, ↓Za, ↓Zk, ↓Zs, ↓Ze, ↓Zj, ↓Zt, ↓Zg, ↓Zm, ↓Zf, ↓Zc, ↓Zb, ↓vdn, vup, Zo, Zh, Zi, Zn, Zl, List.map_cons, List.map_nil, cond_true, cond_false, aop, Zw, Zr, Zp, ev, sput, Zu, Zz, Yb, unK, Zd, Zx, Nat.reduceBEq, Nat.reduceAdd, Int.reduceBEq, Int.reduceBNe, Int.reduceLT, Zv, Ya, tup, tyf, l52_2, hin, nilK, fldA fld_62_0 Xk, ldp, ↓Xc]
      refine Yg fun Q3 hQ3 => ?_
      refine Wp (γ := Nat) (fun j => j ≤ wn xs i)
        (fun j => ([(0, v), (1, Zy i), (4, .pointer none), (5, .bool false), (6, pt h.length), (7, Zy a), (8, vu (mk p j)), (33, Zy (wn xs i : Nat)), (34, Zy a), (40, Zy (wn xs i : Nat)), (41, Zy j)], hp)) (fun j => wn xs i - j) 0 (Nat.zero_le _) (by simp (maxSteps := 2000000) only [↓Za, ↓Zk, ↓Zs, ↓Ze, ↓Zj, ↓Zt, ↓Zg, ↓Zm, ↓Zf, ↓Zc, ↓Zb, ↓vdn, vup, Zo, Zh, Zi, Zn, Zl, List.map_cons, List.map_nil, cond_true, cond_false, aop, Zw, Zr, Zp, ev, sput, Zu, Zz, Yb, unK, Zd, Zx, Nat.reduceBEq, Nat.reduceAdd, Int.reduceBEq, Int.reduceBNe, Int.reduceLT, Zv, Ya, tup, tyf, vu, mk_zero, Int.natCast_zero]) rfl ?_
      intro j hj
      refine Wo fun Q4 hQ4 => ?_
      by_cases hjn : (j : Int) < (wn xs i : Nat)
      · have hj' : j < wn xs i := by omega
        have p1 := hmk j
        have p2 : 2 ^ (j + 1) ≤ 2 ^ 64 := Nat.pow_le_pow_right (by decide) (by omega)
        have p3 : 2 ^ (j + 1) = 2 ^ j * 2 := Nat.pow_succ ..
        have hor : Wi .or .u64 ((mk p j : Nat) : Int) ((2 ^ j : Nat) : Int) = ((mk p j ||| 2 ^ j : Nat) : Int) := orU (by omega) (by omega)
        cases haj : (a == j) with
        | true =>
          have e : mk p (j + 1) = mk p j := by
            have : p j = false := by rw [hp']; simp only [bne, haj]; rfl
            rw [mk, this]; rfl
          simp (maxSteps := 2000000) only [s52, ↓Za, ↓Zk, ↓Zs, ↓Ze, ↓Zj, ↓Zt, ↓Zg, ↓Zm, ↓Zf, ↓Zc, ↓Zb, ↓vdn, vup, Zo, Zh, Zi, Zn, Zl, List.map_cons, List.map_nil, cond_true, cond_false, aop, Zw, Zr, Zp, ev, sput, Zu, Zz, Yb, unK, Zd, Zx, Nat.reduceBEq, Nat.reduceAdd, Int.reduceBEq, Int.reduceBNe, Int.reduceLT, Zv, Ya, tup, tyf, l52_1, hjn, bneN, haj, Bool.not_true, add1 (show j < 9223372036854775807 by omega)]
          exact hQ4 _ _ _ ⟨j + 1, by omega, by omega, by simp (maxSteps := 2000000) only [↓Za, ↓Zk, ↓Zs, ↓Ze, ↓Zj, ↓Zt, ↓Zg, ↓Zm, ↓Zf, ↓Zc, ↓Zb, ↓vdn, vup, Zo, Zh, Zi, Zn, Zl, List.map_cons, List.map_nil, cond_true, cond_false, aop, Zw, Zr, Zp, ev, sput, Zu, Zz, Yb, unK, Zd, Zx, Nat.reduceBEq, Nat.reduceAdd, Int.reduceBEq, Int.reduceBNe, Int.reduceLT, Zv, Ya, tup, tyf, e], rfl⟩
        | false =>
          simp (maxSteps := 2000000) only [s52, ↓Za, ↓Zk, ↓Zs, ↓Ze, ↓Zj, ↓Zt, ↓Zg, ↓Zm, ↓Zf, ↓Zc, ↓Zb, ↓vdn, vup, Zo, Zh, Zi, Zn, Zl, List.map_cons, List.map_nil, cond_true, cond_false, aop, Zw, Zr, Zp, ev, sput, Zu, Zz, Yb, unK, Zd, Zx, Nat.reduceBEq, Nat.reduceAdd, Int.reduceBEq, Int.reduceBNe, Int.reduceLT, Zv, Ya, tup, tyf, l52_1, hjn, bneN, haj, Bool.not_false, Yv, List.nil_append, List.append_nil, List.toList_toArray, List.cons_append]
          refine (confused_call (Ys hv hE) g (show a < 9223372036854775808 by omega) (show j < 9223372036854775808 by omega) (show i < 9223372036854775807 by omega)).mono ?_
          rintro _ hp ⟨rfl, rfl⟩
          cases hcf : cf xs i a j with
          | true =>
            have e : mk p (j + 1) = mk p j ||| 2 ^ j := by
              have : p j = true := by rw [hp']; simp only [bne, haj, hcf]; rfl
              rw [mk, this]; rfl
            simp (maxSteps := 2000000) only [s52, ↓Za, ↓Zk, ↓Zs, ↓Ze, ↓Zj, ↓Zt, ↓Zg, ↓Zm, ↓Zf, ↓Zc, ↓Zb, ↓vdn, vup, Zo, Zh, Zi, Zn, Zl, List.map_cons, List.map_nil, cond_true, cond_false, aop, Zw, Zr, Zp, ev, sput, Zu, Zz, Yb, unK, Zd, Zx, Nat.reduceBEq, Nat.reduceAdd, Int.reduceBEq, Int.reduceBNe, Int.reduceLT, Zv, Ya, tup, tyf, Int.natCast_nonneg, shlU1 (show j < 64 by omega), hor, add1 (show j < 9223372036854775807 by omega)]
            exact hQ4 _ _ _ ⟨j + 1, by omega, by omega, by simp (maxSteps := 2000000) only [↓Za, ↓Zk, ↓Zs, ↓Ze, ↓Zj, ↓Zt, ↓Zg, ↓Zm, ↓Zf, ↓Zc, ↓Zb, ↓vdn, vup, Zo, Zh, Zi, Zn, Zl, List.map_cons, List.map_nil, cond_true, cond_false, aop, Zw, Zr, Zp, ev, sput, Zu, Zz, Yb, unK, Zd, Zx, Nat.reduceBEq, Nat.reduceAdd, Int.reduceBEq, Int.reduceBNe, Int.reduceLT, Zv, Ya, tup, tyf, e], rfl⟩
          | false =>
            have e : mk p (j + 1) = mk p j := by
              have : p j = false := by rw [hp']; simp only [hcf, Bool.and_false]
              rw [mk, this]; rfl
            simp (maxSteps := 2000000) only [s52, ↓Za, ↓Zk, ↓Zs, ↓Ze, ↓Zj, ↓Zt, ↓Zg, ↓Zm, ↓Zf, ↓Zc, ↓Zb, ↓vdn, vup, Zo, Zh, Zi, Zn, Zl, List.map_cons, List.map_nil, cond_true, cond_false, aop, Zw, Zr, Zp, ev, sput, Zu, Zz, Yb, unK, Zd, Zx, Nat.reduceBEq, Nat.reduceAdd, Int.reduceBEq, Int.reduceBNe, Int.reduceLT, Zv, Ya, tup, tyf, add1 (show j < 9223372036854775807 by omega)]
            exact hQ4 _ _ _ ⟨j + 1, by omega, by omega, by simp (maxSteps := 2000000) only [↓Za, ↓Zk, ↓Zs, ↓Ze, ↓Zj, ↓Zt, ↓Zg, ↓Zm, ↓Zf, ↓Zc, ↓Zb, ↓vdn, vup, Zo, Zh, Zi, Zn, Zl, List.map_cons, List.map_nil, cond_true, cond_false, aop, Zw, Zr, Zp, ev, sput, Zu, Zz, Yb, unK, Zd, Zx, Nat.reduceBEq, Nat.reduceAdd, Int.reduceBEq, Int.reduceBNe, Int.reduceLT, Zv, Ya, tup, tyf, e], rfl⟩
      · obtain rfl : j = wn xs i := by omega
        simp (maxSteps := 2000000) only [s52, ↓Za, ↓Zk, ↓Zs, ↓Ze, ↓Zj, ↓Zt, ↓Zg, ↓Zm, ↓Zf, ↓Zc, ↓Zb, ↓vdn, vup, Zo, Zh, Zi, Zn, Zl, List.map_cons, List.map_nil, cond_true, cond_false, aop, Zw, Zr, Zp, ev, sput, Zu, Zz, Yb, unK, Zd, Zx, Nat.reduceBEq, Nat.reduceAdd, Int.reduceBEq, Int.reduceBNe, Int.reduceLT, Zv, Ya, tup, tyf, l52_1, Int.lt_irrefl]
        refine hQ4 _ _ _ (hQ3 _ _ _ ?_)
        simp (maxSteps := 2000000) only [s52, ↓Za, ↓Zk, ↓Zs, ↓Ze, ↓Zj, ↓Zt, ↓Zg, ↓Zm, ↓Zf, ↓Zc, ↓Zb, ↓vdn, vup, Zo, Zh, Zi, Zn, Zl, List.map_cons, List.map_nil, cond_true, cond_false, aop, Zw, Zr, Zp, ev, sput, Zu, Zz, Yb, unK, Zd, Zx, Nat.reduceBEq, Nat.reduceAdd, Int.reduceBEq, Int.reduceBNe, Int.reduceLT, Zv, Ya, tup, tyf, if_true, nilK, fldA fld_62_0 Xk, fldA fld_62_1 esz_60, ldn, litU]
        have en : mk p (wn xs i) = nearW xs i a := by rw [hp']; rfl
        rw [en]
        have hE1 : Ext (fun _ => False) hp (hp ++ [Blk.cells [.int .u64 ((nearW xs i a : Nat) : Int)] 63 false]) := Ext.app _ _ _
        refine (ho.ext hE1).app app_60_60 (litU_val hp _) ?_ ?_ fun nv2 h2 ho2 hE2 hb2 => ?_
        · intro w hw
          rcases List.mem_append.1 hw with hw | hw
          · obtain ⟨z, _, rfl⟩ := List.mem_map.1 hw; exact ⟨rfl, rfl⟩
          · rw [List.mem_singleton.1 hw]; exact ⟨rfl, rfl⟩
        · simp only [List.length_map, List.length_range, List.length_singleton]; omega
        have hlt := Yx hc
        have hc2 : h2[h.length]? = some (.cells [Zy (wn xs i : Nat), nv] 62 false) := by
          rw [hE2.2 _ (Nat.lt_of_lt_of_le hlt hE1.1) fun h1 => by have := hbl _ h1; omega, hE1.2 _ hlt id]; exact hc
        have hst : ∀ {K : Yd → Prop}, Xp prog h2 60 (.pointer (some ⟨h.length, 1, none⟩)) nv2 K = K (h2.set h.length (.cells [Zy (wn xs i : Nat), nv2] 62 false)) := fun {K} => by
          rw [storeC hc2 shp_60 (ownV_one ho2) (by simp)]; rfl
        have hb3 : ∀ b, Yq nv2 = some b → h.length < b := fun b h1 => by
          rcases hb2 with h3 | ⟨b', h3, h4⟩
          · exact hbl b (h3 ▸ h1)
          · rw [h3] at h1; cases h1; have := hE1.1; omega
        simp (maxSteps := 2000000) only [s52, ↓Za, ↓Zk, ↓Zs, ↓Ze, ↓Zj, ↓Zt, ↓Zg, ↓Zm, ↓Zf, ↓Zc, ↓Zb, ↓vdn, vup, Zo, Zh, Zi, Zn, Zl, List.map_cons, List.map_nil, cond_true, cond_false, aop, Zw, Zr, Zp, ev, sput, Zu, Zz, Yb, unK, Zd, Zx, Nat.reduceBEq, Nat.reduceAdd, Int.reduceBEq, Int.reduceBNe, Int.reduceLT, Zv, Ya, tup, tyf, hst, add1 (show a < 9223372036854775807 by omega)]
        refine hQ2 _ _ _ ⟨(a + 1, h2.set h.length (.cells [Zy (wn xs i : Nat), nv2] 62 false), nv2), ⟨by simp only; omega, ⟨?_, fun x hx _ => ?_⟩, get_set (Yx hc2) _, ?_, hb3⟩, by simp only; omega, by simp (maxSteps := 2000000) only [↓Za, ↓Zk, ↓Zs, ↓Ze, ↓Zj, ↓Zt, ↓Zg, ↓Zm, ↓Zf, ↓Zc, ↓Zb, ↓vdn, vup, Zo, Zh, Zi, Zn, Zl, List.map_cons, List.map_nil, cond_true, cond_false, aop, Zw, Zr, Zp, ev, sput, Zu, Zz, Yb, unK, Zd, Zx, Nat.reduceBEq, Nat.reduceAdd, Int.reduceBEq, Int.reduceBNe, Int.reduceLT, Zv, Ya, tup, tyf], rfl⟩
        · rw [List.length_set]; have := hE.1; have := hE1.1; have := hE2.1; omega
        · have l1 := hE.1
          have l2 := hE1.1
          rw [List.getElem?_set_ne (by omega), hE2.2 x (by omega) fun h1 => by have := hbl _ h1; omega, hE1.2 x (by omega) id]
          exact hE.2 x hx id
        · rw [List.range_succ, List.map_append, List.map_append]
          exact ho2.same fun b h1 => List.getElem?_set_ne (by have := hb3 b h1; omega)
    · obtain rfl : a = wn xs i := by omega
      simp (maxSteps := 2000000) only [s52, ↓Za, ↓Zk, ↓Zs, ↓Ze, ↓Zj, ↓Zt, ↓Zg, ↓Zm, ↓Zf, ↓Zc, ↓Zb, ↓vdn, vup, Zo, Zh, Zi, Zn, Zl, List.map_cons, List.map_nil, cond_true, cond_false, aop, Zw, Zr, Zp, ev, sput, Zu, Zz, Yb, unK, Zd, Zx, Nat.reduceBEq, Nat.reduceAdd, Int.reduceBEq, Int.reduceBNe, Int.reduceLT, Zv, Ya, tup, tyf, l52_2, Int.lt_irrefl]
      refine hQ2 _ _ _ (hQ _ _ _ ?_)
      simp (maxSteps := 2000000) only [s52, ↓Za, ↓Zk, ↓Zs, ↓Ze, ↓Zj, ↓Zt, ↓Zg, ↓Zm, ↓Zf, ↓Zc, ↓Zb, ↓vdn, vup, Zo, Zh, Zi, Zn, Zl, List.map_cons, List.map_nil, cond_true, cond_false, aop, Zw, Zr, Zp, ev, sput, Zu, Zz, Yb, unK, Zd, Zx, Nat.reduceBEq, Nat.reduceAdd, Int.reduceBEq, Int.reduceBNe, Int.reduceLT, Zv, Ya, tup, tyf, if_true]
      refine hN _ _ ?_
      simp (maxSteps := 2000000) only [s52, ↓Za, ↓Zk, ↓Zs, ↓Ze, ↓Zj, ↓Zt, ↓Zg, ↓Zm, ↓Zf, ↓Zc, ↓Zb, ↓vdn, vup, Zo, Zh, Zi, Zn, Zl, List.map_cons, List.map_nil, cond_true, cond_false, aop, Zw, Zr, Zp, ev, sput, Zu, Zz, Yb, unK, Zd, Zx, Nat.reduceBEq, Nat.reduceAdd, Int.reduceBEq, Int.reduceBNe, Int.reduceLT, Zv, Ya, tup, tyf]
      rw [if_pos hw]
      exact ⟨hE, h.length, rfl, nv, by rw [nearL_len]; exact hc, ho.val⟩
end Go.Proofs.Tryd.Am

namespace Go.Proofs.Tryd.Am
open Go.Am Sr
set_option maxRecDepth 100000
set_option maxHeartbeats 1000000

theorem getD_vu {nr : List Nat} {v : Nat} (hv : v < nr.length) : (nr.map fun x => vu x).getD v undef = vu (nb nr v) := by
  simp [nb, List.getD, List.getElem?_eq_getElem hv]
theorem p64 : (2 : Nat) ^ 64 = 18446744073709551616 := by decide
theorem lt64 {nr : List Nat} (g : Gr nr) {s : Nat} (hs : s < 2 ^ nr.length) : s < 18446744073709551616 := by
  rw [← p64]; exact Nat.lt_of_lt_of_le hs (Nat.pow_le_pow_right (by decide) g.len)
theorem nb64 {nr : List Nat} (g : Gr nr) (v : Nat) : nb nr v < 18446744073709551616 := lt64 g (g.lt v)
theorem bit64 {v : Nat} (h : v < 64) : 2 ^ v < 18446744073709551616 := by
  rw [← p64]; exact Nat.pow_lt_pow_right (by decide) h
theorem cutU {nr : List Nat} (g : Gr nr) {s v : Nat} (hs : s < 2 ^ nr.length) (hv : v < 64) : Wi .andNot .u64 ((less s (nb nr v) : Nat) : Int) ((2 ^ v : Nat) : Int) = ((cut nr s v : Nat) : Int) := by
  rw [lessU (lt64 g (less_lt hs)) (bit64 hv)]; rfl
theorem bits_head {r : Nat} (hr : r < 18446744073709551616) (h0 : r ≠ 0) : r.testBit (Lib.ctz 64 r) = true := by
  have h := bits_stepU r hr h0
  have : Lib.ctz 64 r ∈ Am.bits r := by rw [h]; exact List.mem_cons_self ..
  exact (List.mem_filter.1 this).2
theorem sub_pred {r t : Nat} (h : ∀ i, r.testBit i = true → t.testBit i = true) (i : Nat) : (r &&& (r - 1)).testBit i = true → t.testBit i = true := by
  rw [Nat.testBit_and, Bool.and_eq_true]; exact fun h2 => h i h2.1

def pickI (nr : List Nat) (t r : Nat) (p d : Int) : Prop := (p = -1 ∧ d = -1 ∧ r = t) ∨ ∃ v : Nat, p = v ∧ t.testBit v = true ∧ d = ((Am.bits (nb nr v &&& t)).length : Nat) ∧ 1 < (Am.bits (nb nr v &&& t)).length

theorem most_call [BitTab prog 0] {h : Yd} {b : Nat} {nr : List Nat} (w : WO h b nr) (g : Gr nr) : ∀ s, s < 2 ^ nr.length → APure prog 53 [pt b, vu s] h (Zy (A nr s : Nat)) := by
  intro s
  induction s using Nat.strongRecOn with
  | _ s ih =>
    intro hs
    obtain ⟨nv, hc, hv⟩ := w
    have ldn : ∀ {K : Value → Prop}, Xs prog h 60 (.pointer (some ⟨b, 1, none⟩)) K = K nv := fun {K} => loadC (o := 1) hc shp_60 rfl
    have ix : ∀ v, v < nr.length → ∀ {K : Value → Prop}, Xg prog 60 nv (Zy v) K = K (Wq nv 1 v) := fun v h1 {K} => hv.idx el_60 esz_63 (by rw [List.length_map]; exact h1) K
    have ld : ∀ v, v < nr.length → ∀ {K : Value → Prop}, Xs prog h 63 (Wq nv 1 v) K = K (vu (nb nr v)) := fun v h1 {K} => by
      rw [hv.load shp_63 (by rw [List.length_map]; exact h1), getD_vu h1]
    refine s53_call (by simp) ?_
    simp (maxSteps := 2000000) only [s53, ↓Za, ↓Zk, ↓Zs, ↓Ze, ↓Zj, ↓Zt, ↓Zg, ↓Zm, ↓Zf, ↓Zc, ↓Zb, ↓vdn, vup, Zo, Zh, Zi, Zn, Zl, List.map_cons, List.map_nil, cond_true, cond_false, aop, Zw, Zr, Zp, ev, sput, Zu, Zz, Yb, unK, Zd, Zx, Nat.reduceBEq, Nat.reduceAdd, Int.reduceBEq, Int.reduceBNe, Int.reduceLT, Zv, Ya, tup, tyf, ↓Xc]
    refine Yg fun Q hQ => ?_
    refine Xu (γ := Nat × Nat) (fun a => a.1 ≤ s ∧ a.1 < 2 ^ nr.length ∧ a.2 + A nr a.1 = A nr s)
      (fun a => ([(0, pt b), (1, vu a.1), (4, .int .i64 0), (5, Zy a.2)], h)) (fun a => a.1) (s, 0) ⟨Nat.le_refl _, hs, Nat.zero_add _⟩ (by simp (maxSteps := 2000000) only [↓Za, ↓Zk, ↓Zs, ↓Ze, ↓Zj, ↓Zt, ↓Zg, ↓Zm, ↓Zf, ↓Zc, ↓Zb, ↓vdn, vup, Zo, Zh, Zi, Zn, Zl, List.map_cons, List.map_nil, cond_true, cond_false, aop, Zw, Zr, Zp, ev, sput, Zu, Zz, Yb, unK, Zd, Zx, Nat.reduceBEq, Nat.reduceAdd, Int.reduceBEq, Int.reduceBNe, Int.reduceLT, Zv, Ya, tup, tyf, Int.natCast_zero]) rfl ?_
    rintro ⟨t, o⟩ ⟨h1, h2, h3⟩
    simp only at h1 h2 h3
    have hA := A_le nr s
    refine Yg fun Q2 hQ2 => ?_
    simp only [l53_1]
    refine Yc fun N hN => ?_
    by_cases t0 : t = 0
    · subst t0
      rw [A_zero] at h3
      simp (maxSteps := 2000000) only [s53, ↓Za, ↓Zk, ↓Zs, ↓Ze, ↓Zj, ↓Zt, ↓Zg, ↓Zm, ↓Zf, ↓Zc, ↓Zb, ↓vdn, vup, Zo, Zh, Zi, Zn, Zl, List.map_cons, List.map_nil, cond_true, cond_false, aop, Zw, Zr, Zp, ev, sput, Zu, Zz, Yb, unK, Zd, Zx, Nat.reduceBEq, Nat.reduceAdd, Int.reduceBEq, Int.reduceBNe, Int.reduceLT, Zv, Ya, tup, tyf, ofNe, ne_eq, not_true_eq_false, decide_false]
      refine hQ2 _ _ _ (hQ _ _ _ ?_)
      simp (maxSteps := 2000000) only [s53, ↓Za, ↓Zk, ↓Zs, ↓Ze, ↓Zj, ↓Zt, ↓Zg, ↓Zm, ↓Zf, ↓Zc, ↓Zb, ↓vdn, vup, Zo, Zh, Zi, Zn, Zl, List.map_cons, List.map_nil, cond_true, cond_false, aop, Zw, Zr, Zp, ev, sput, Zu, Zz, Yb, unK, Zd, Zx, Nat.reduceBEq, Nat.reduceAdd, Int.reduceBEq, Int.reduceBNe, Int.reduceLT, Zv, Ya, tup, tyf, if_true]
      rw [← h3, Nat.add_zero]
    simp (maxSteps := 2000000) only [s53, ↓Za, ↓Zk, ↓Zs, ↓Ze, ↓Zj, ↓Zt, ↓Zg, ↓Zm, ↓Zf, ↓Zc, ↓Zb, ↓vdn, vup, Zo, Zh, Zi, Zn, Zl, List.map_cons, List.map_nil, cond_true, cond_false, aop, Zw, Zr, Zp, ev, sput, Zu, Zz, Yb, unK, Zd, Zx, Nat.reduceBEq, Nat.reduceAdd, Int.reduceBEq, Int.reduceBNe, Int.reduceLT, Zv, Ya, tup, tyf, ofNe, ne_eq, t0, not_false_eq_true, decide_true]
    refine hN [(0, pt b), (1, vu t), (4, .int .i64 0), (5, Zy o)] _ _ ?_ (by simp (maxSteps := 2000000) only [↓Za, ↓Zk, ↓Zs, ↓Ze, ↓Zj, ↓Zt, ↓Zg, ↓Zm, ↓Zf, ↓Zc, ↓Zb, ↓vdn, vup, Zo, Zh, Zi, Zn, Zl, List.map_cons, List.map_nil, cond_true, cond_false, aop, Zw, Zr, Zp, ev, sput, Zu, Zz, Yb, unK, Zd, Zx, Nat.reduceBEq, Nat.reduceAdd, Int.reduceBEq, Int.reduceBNe, Int.reduceLT, Zv, Ya, tup, tyf])
    clear hN N
    have ht := lt64 g h2
    refine Ym ?_
    refine Yc fun N hN => ?_
    simp (maxSteps := 2000000) only [s53, ↓Za, ↓Zk, ↓Zs, ↓Ze, ↓Zj, ↓Zt, ↓Zg, ↓Zm, ↓Zf, ↓Zc, ↓Zb, ↓vdn, vup, Zo, Zh, Zi, Zn, Zl, List.map_cons, List.map_nil, cond_true, cond_false, aop, Zw, Zr, Zp, ev, sput, Zu, Zz, Yb, unK, Zd, Zx, Nat.reduceBEq, Nat.reduceAdd, Int.reduceBEq, Int.reduceBNe, Int.reduceLT, Zv, Ya, tup, tyf]
    refine hN [(0, pt b), (1, vu t), (4, .int .i64 0), (5, Zy o), (6, .int .i64 (-1)), (7, .int .i64 (-1))] _ _ ?_ (by simp (maxSteps := 2000000) only [↓Za, ↓Zk, ↓Zs, ↓Ze, ↓Zj, ↓Zt, ↓Zg, ↓Zm, ↓Zf, ↓Zc, ↓Zb, ↓vdn, vup, Zo, Zh, Zi, Zn, Zl, List.map_cons, List.map_nil, cond_true, cond_false, aop, Zw, Zr, Zp, ev, sput, Zu, Zz, Yb, unK, Zd, Zx, Nat.reduceBEq, Nat.reduceAdd, Int.reduceBEq, Int.reduceBNe, Int.reduceLT, Zv, Ya, tup, tyf])
    clear hN N
    refine Yc fun N hN => ?_
    have go : ∀ v d, t.testBit v = true → d = (Am.bits (nb nr v &&& t)).length → ∀ e, ELe e [(0, pt b), (1, vu t), (4, .int .i64 0), (5, Zy o), (6, Zy v), (7, Zy d)] → N e h := by
      intro v d hb hd e he
      refine hN [(0, pt b), (1, vu t), (4, .int .i64 0), (5, Zy o), (6, Zy v), (7, Zy d)] _ _ ?_ he
      clear hN N he e
      have hvl := bit_lt h2 hb
      have hv64 : v < 64 := Nat.lt_of_lt_of_le hvl g.len
      have hnn : (0 : Int) ≤ (v : Int) := Int.natCast_nonneg _
      refine Yc fun N hN => ?_
      by_cases hd1 : (1 : Int) < (d : Int)
      · simp (maxSteps := 2000000) only [s53, ↓Za, ↓Zk, ↓Zs, ↓Ze, ↓Zj, ↓Zt, ↓Zg, ↓Zm, ↓Zf, ↓Zc, ↓Zb, ↓vdn, vup, Zo, Zh, Zi, Zn, Zl, List.map_cons, List.map_nil, cond_true, cond_false, aop, Zw, Zr, Zp, ev, sput, Zu, Zz, Yb, unK, Zd, Zx, Nat.reduceBEq, Nat.reduceAdd, Int.reduceBEq, Int.reduceBNe, Int.reduceLT, Zv, Ya, tup, tyf, gt_iff_lt, hd1]
        have l1 := cut_less g hb
        have l2 := less_bit_lt hb
        have hp := A_pivot g (Nat.lt_of_lt_of_le h2 (Nat.pow_le_pow_right (by decide) g.len)) hb
        refine Wn [(14, 1), (21, 1)] (by kernel_rfl) (by kernel_rfl) (by kernel_rfl) (by kernel_rfl) ?_
        simp (maxSteps := 2000000) only [s53, ↓Za, ↓Zk, ↓Zs, ↓Ze, ↓Zj, ↓Zt, ↓Zg, ↓Zm, ↓Zf, ↓Zc, ↓Zb, ↓vdn, vup, Zo, Zh, Zi, Zn, Zl, List.map_cons, List.map_nil, cond_true, cond_false, aop, Zw, Zr, Zp, ev, sput, Zu, Zz, Yb, unK, Zd, Zx, Nat.reduceBEq, Nat.reduceAdd, Int.reduceBEq, Int.reduceBNe, Int.reduceLT, Zv, Ya, tup, tyf, nilK, fldA fld_62_1 esz_60, ldn, ix v hvl, ld v hvl, hnn, shlU1 hv64, lessU ht (nb64 g v), cutU g h2 hv64, lessU ht (bit64 hv64), Yv, List.nil_append, List.append_nil, List.toList_toArray, List.cons_append]
        refine ⟨_, _, ih (cut nr t v) (by omega) (cut_lt h2), rfl, ?_⟩
        have a1 := A_le nr (cut nr t v)
        have a2 := A_le nr (less t (2 ^ v))
        have e1 : addV .i64 1 ((A nr (cut nr t v) : Nat) : Int) = ((1 + A nr (cut nr t v) : Nat) : Int) := by rw [Vm (by omega) (by omega)]; omega
        simp (maxSteps := 2000000) only [s53, ↓Za, ↓Zk, ↓Zs, ↓Ze, ↓Zj, ↓Zt, ↓Zg, ↓Zm, ↓Zf, ↓Zc, ↓Zb, ↓vdn, vup, Zo, Zh, Zi, Zn, Zl, List.map_cons, List.map_nil, cond_true, cond_false, aop, Zw, Zr, Zp, ev, sput, Zu, Zz, Yb, unK, Zd, Zx, Nat.reduceBEq, Nat.reduceAdd, Int.reduceBEq, Int.reduceBNe, Int.reduceLT, Zv, Ya, tup, tyf, e1, hnn, shlU1 hv64, lessU ht (bit64 hv64), Yv, List.nil_append, List.append_nil, List.toList_toArray, List.cons_append]
        refine ⟨_, _, ih (less t (2 ^ v)) (by omega) (less_lt h2), rfl, ?_⟩
        by_cases hm : ((1 + A nr (cut nr t v) : Nat) : Int) < ((A nr (less t (2 ^ v)) : Nat) : Int)
        · have e2 : addV .i64 ((o : Nat) : Int) ((A nr (less t (2 ^ v)) : Nat) : Int) = ((A nr s : Nat) : Int) := by rw [Vm (by omega) (by omega)]; omega
          simp (maxSteps := 2000000) only [s53, ↓Za, ↓Zk, ↓Zs, ↓Ze, ↓Zj, ↓Zt, ↓Zg, ↓Zm, ↓Zf, ↓Zc, ↓Zb, ↓vdn, vup, Zo, Zh, Zi, Zn, Zl, List.map_cons, List.map_nil, cond_true, cond_false, aop, Zw, Zr, Zp, ev, sput, Zu, Zz, Yb, unK, Zd, Zx, Nat.reduceBEq, Nat.reduceAdd, Int.reduceBEq, Int.reduceBNe, Int.reduceLT, Zv, Ya, tup, tyf, mmK, if_true, gt_iff_lt, hm, e2]
          refine hQ2 _ _ _ (hQ _ _ _ ?_)
          simp (maxSteps := 2000000) only [↓Za, ↓Zk, ↓Zs, ↓Ze, ↓Zj, ↓Zt, ↓Zg, ↓Zm, ↓Zf, ↓Zc, ↓Zb, ↓vdn, vup, Zo, Zh, Zi, Zn, Zl, List.map_cons, List.map_nil, cond_true, cond_false, aop, Zw, Zr, Zp, ev, sput, Zu, Zz, Yb, unK, Zd, Zx, Nat.reduceBEq, Nat.reduceAdd, Int.reduceBEq, Int.reduceBNe, Int.reduceLT, Zv, Ya, tup, tyf]
        · have e2 : addV .i64 ((o : Nat) : Int) ((1 + A nr (cut nr t v) : Nat) : Int) = ((A nr s : Nat) : Int) := by rw [Vm (by omega) (by omega)]; omega
          simp (maxSteps := 2000000) only [s53, ↓Za, ↓Zk, ↓Zs, ↓Ze, ↓Zj, ↓Zt, ↓Zg, ↓Zm, ↓Zf, ↓Zc, ↓Zb, ↓vdn, vup, Zo, Zh, Zi, Zn, Zl, List.map_cons, List.map_nil, cond_true, cond_false, aop, Zw, Zr, Zp, ev, sput, Zu, Zz, Yb, unK, Zd, Zx, Nat.reduceBEq, Nat.reduceAdd, Int.reduceBEq, Int.reduceBNe, Int.reduceLT, Zv, Ya, tup, tyf, mmK, if_true, if_false, gt_iff_lt, hm, e2]
          refine hQ2 _ _ _ (hQ _ _ _ ?_)
          simp (maxSteps := 2000000) only [↓Za, ↓Zk, ↓Zs, ↓Ze, ↓Zj, ↓Zt, ↓Zg, ↓Zm, ↓Zf, ↓Zc, ↓Zb, ↓vdn, vup, Zo, Zh, Zi, Zn, Zl, List.map_cons, List.map_nil, cond_true, cond_false, aop, Zw, Zr, Zp, ev, sput, Zu, Zz, Yb, unK, Zd, Zx, Nat.reduceBEq, Nat.reduceAdd, Int.reduceBEq, Int.reduceBNe, Int.reduceLT, Zv, Ya, tup, tyf]
      · have hp := A_one g (Nat.lt_of_lt_of_le h2 (Nat.pow_le_pow_right (by decide) g.len)) hb (by omega)
        have hlt := cut_less g hb
        simp (maxSteps := 2000000) only [s53, ↓Za, ↓Zk, ↓Zs, ↓Ze, ↓Zj, ↓Zt, ↓Zg, ↓Zm, ↓Zf, ↓Zc, ↓Zb, ↓vdn, vup, Zo, Zh, Zi, Zn, Zl, List.map_cons, List.map_nil, cond_true, cond_false, aop, Zw, Zr, Zp, ev, sput, Zu, Zz, Yb, unK, Zd, Zx, Nat.reduceBEq, Nat.reduceAdd, Int.reduceBEq, Int.reduceBNe, Int.reduceLT, Zv, Ya, tup, tyf, gt_iff_lt, hd1]
        refine hN [(0, pt b), (1, vu t), (4, .int .i64 0), (5, Zy o), (6, Zy v)] _ _ ?_ (by simp (maxSteps := 2000000) only [↓Za, ↓Zk, ↓Zs, ↓Ze, ↓Zj, ↓Zt, ↓Zg, ↓Zm, ↓Zf, ↓Zc, ↓Zb, ↓vdn, vup, Zo, Zh, Zi, Zn, Zl, List.map_cons, List.map_nil, cond_true, cond_false, aop, Zw, Zr, Zp, ev, sput, Zu, Zz, Yb, unK, Zd, Zx, Nat.reduceBEq, Nat.reduceAdd, Int.reduceBEq, Int.reduceBNe, Int.reduceLT, Zv, Ya, tup, tyf])
        clear hN N
        refine Yc fun N hN => ?_
        simp (maxSteps := 2000000) only [s53, ↓Za, ↓Zk, ↓Zs, ↓Ze, ↓Zj, ↓Zt, ↓Zg, ↓Zm, ↓Zf, ↓Zc, ↓Zb, ↓vdn, vup, Zo, Zh, Zi, Zn, Zl, List.map_cons, List.map_nil, cond_true, cond_false, aop, Zw, Zr, Zp, ev, sput, Zu, Zz, Yb, unK, Zd, Zx, Nat.reduceBEq, Nat.reduceAdd, Int.reduceBEq, Int.reduceBNe, Int.reduceLT, Zv, Ya, tup, tyf, add1 (show o < 9223372036854775807 by omega)]
        refine hN [(0, pt b), (1, vu t), (4, .int .i64 0), (5, Zy (o + 1 : Nat)), (6, Zy v)] _ _ ?_ (by simp (maxSteps := 2000000) only [↓Za, ↓Zk, ↓Zs, ↓Ze, ↓Zj, ↓Zt, ↓Zg, ↓Zm, ↓Zf, ↓Zc, ↓Zb, ↓vdn, vup, Zo, Zh, Zi, Zn, Zl, List.map_cons, List.map_nil, cond_true, cond_false, aop, Zw, Zr, Zp, ev, sput, Zu, Zz, Yb, unK, Zd, Zx, Nat.reduceBEq, Nat.reduceAdd, Int.reduceBEq, Int.reduceBNe, Int.reduceLT, Zv, Ya, tup, tyf])
        clear hN N
        refine Ye ?_
        have hor : Wi .or .u64 ((nb nr v : Nat) : Int) ((2 ^ v : Nat) : Int) = ((nb nr v ||| 2 ^ v : Nat) : Int) := orU (nb64 g v) (bit64 hv64)
        have hls : Wi .andNot .u64 (t : Int) ((nb nr v ||| 2 ^ v : Nat) : Int) = ((cut nr t v : Nat) : Int) := by
          rw [lessU ht (by rw [← p64]; exact Nat.or_lt_two_pow (by rw [p64]; exact nb64 g v) (by rw [p64]; exact bit64 hv64)), cut_or]
        refine aw_draw [] (by kernel_rfl) (by kernel_rfl) (by kernel_rfl) ?_
        simp (maxSteps := 2000000) only [s53, ↓Za, ↓Zk, ↓Zs, ↓Ze, ↓Zj, ↓Zt, ↓Zg, ↓Zm, ↓Zf, ↓Zc, ↓Zb, ↓vdn, vup, Zo, Zh, Zi, Zn, Zl, List.map_cons, List.map_nil, cond_true, cond_false, aop, Zw, Zr, Zp, ev, sput, Zu, Zz, Yb, unK, Zd, Zx, Nat.reduceBEq, Nat.reduceAdd, Int.reduceBEq, Int.reduceBNe, Int.reduceLT, Zv, Ya, tup, tyf, nilK, fldA fld_62_1 esz_60, ldn, ix v hvl, ld v hvl, hnn, shlU1 hv64, hor, hls]
        refine hQ2 _ _ _ ⟨(cut nr t v, o + 1), ⟨by simp only; omega, cut_lt h2, by simp only; omega⟩, hlt, by simp (maxSteps := 2000000) only [↓Za, ↓Zk, ↓Zs, ↓Ze, ↓Zj, ↓Zt, ↓Zg, ↓Zm, ↓Zf, ↓Zc, ↓Zb, ↓vdn, vup, Zo, Zh, Zi, Zn, Zl, List.map_cons, List.map_nil, cond_true, cond_false, aop, Zw, Zr, Zp, ev, sput, Zu, Zz, Yb, unK, Zd, Zx, Nat.reduceBEq, Nat.reduceAdd, Int.reduceBEq, Int.reduceBNe, Int.reduceLT, Zv, Ya, tup, tyf], rfl⟩
    simp (maxSteps := 2000000) only [s53, ↓Za, ↓Zk, ↓Zs, ↓Ze, ↓Zj, ↓Zt, ↓Zg, ↓Zm, ↓Zf, ↓Zc, ↓Zb, ↓vdn, vup, Zo, Zh, Zi, Zn, Zl, List.map_cons, List.map_nil, cond_true, cond_false, aop, Zw, Zr, Zp, ev, sput, Zu, Zz, Yb, unK, Zd, Zx, Nat.reduceBEq, Nat.reduceAdd, Int.reduceBEq, Int.reduceBNe, Int.reduceLT, Zv, Ya, tup, tyf, ↓Xc]
    refine Yg fun Q3 hQ3 => ?_
    refine Wp (γ := Nat × Int × Int) (fun a => a.1 ≤ t ∧ (∀ i, a.1.testBit i = true → t.testBit i = true) ∧ pickI nr t a.1 a.2.1 a.2.2)
      (fun a => ([(0, pt b), (1, vu t), (4, .int .i64 0), (5, Zy o), (6, .int .i64 a.2.1), (7, .int .i64 a.2.2), (8, vu a.1)], h)) (fun a => a.1) (t, -1, -1) ⟨Nat.le_refl _, fun _ h => h, .inl ⟨rfl, rfl, rfl⟩⟩ (by simp (maxSteps := 2000000) only [↓Za, ↓Zk, ↓Zs, ↓Ze, ↓Zj, ↓Zt, ↓Zg, ↓Zm, ↓Zf, ↓Zc, ↓Zb, ↓vdn, vup, Zo, Zh, Zi, Zn, Zl, List.map_cons, List.map_nil, cond_true, cond_false, aop, Zw, Zr, Zp, ev, sput, Zu, Zz, Yb, unK, Zd, Zx, Nat.reduceBEq, Nat.reduceAdd, Int.reduceBEq, Int.reduceBNe, Int.reduceLT, Zv, Ya, tup, tyf]) rfl ?_
    rintro ⟨r, p, d⟩ ⟨hrt, hr, hp⟩
    simp only at hrt hr hp
    refine Wo fun Q4 hQ4 => ?_
    by_cases r0 : r = 0
    · subst r0
      rcases hp with ⟨_, _, h9⟩ | ⟨v, rfl, hb, rfl, h1d⟩
      · exact absurd h9.symm t0
      · simp (maxSteps := 2000000) only [s53, ↓Za, ↓Zk, ↓Zs, ↓Ze, ↓Zj, ↓Zt, ↓Zg, ↓Zm, ↓Zf, ↓Zc, ↓Zb, ↓vdn, vup, Zo, Zh, Zi, Zn, Zl, List.map_cons, List.map_nil, cond_true, cond_false, aop, Zw, Zr, Zp, ev, sput, Zu, Zz, Yb, unK, Zd, Zx, Nat.reduceBEq, Nat.reduceAdd, Int.reduceBEq, Int.reduceBNe, Int.reduceLT, Zv, Ya, tup, tyf, l53_0, ofNe, ne_eq, not_true_eq_false, decide_false]
        exact hQ4 _ _ _ (hQ3 _ _ _ (go v _ hb rfl _ (by simp (maxSteps := 2000000) only [↓Za, ↓Zk, ↓Zs, ↓Ze, ↓Zj, ↓Zt, ↓Zg, ↓Zm, ↓Zf, ↓Zc, ↓Zb, ↓vdn, vup, Zo, Zh, Zi, Zn, Zl, List.map_cons, List.map_nil, cond_true, cond_false, aop, Zw, Zr, Zp, ev, sput, Zu, Zz, Yb, unK, Zd, Zx, Nat.reduceBEq, Nat.reduceAdd, Int.reduceBEq, Int.reduceBNe, Int.reduceLT, Zv, Ya, tup, tyf])))
    have r64 : r < 18446744073709551616 := by omega
    have hb := hr _ (bits_head r64 r0)
    have hlt := and_pred_lt r r0
    have hsb := sub_pred hr
    have htz := tz_call (h := h) r64
    generalize Lib.ctz 64 r = v at hb htz
    have hvl := bit_lt h2 hb
    have hon := ones_call (h := h) (x := nb nr v &&& t) (Nat.lt_of_le_of_lt Nat.and_le_right ht)
    obtain ⟨c, hcd⟩ : ∃ c, c = (Am.bits (nb nr v &&& t)).length := ⟨_, rfl⟩
    rw [← hcd] at hon
    simp (maxSteps := 2000000) only [s53, ↓Za, ↓Zk, ↓Zs, ↓Ze, ↓Zj, ↓Zt, ↓Zg, ↓Zm, ↓Zf, ↓Zc, ↓Zb, ↓vdn, vup, Zo, Zh, Zi, Zn, Zl, List.map_cons, List.map_nil, cond_true, cond_false, aop, Zw, Zr, Zp, ev, sput, Zu, Zz, Yb, unK, Zd, Zx, Nat.reduceBEq, Nat.reduceAdd, Int.reduceBEq, Int.reduceBNe, Int.reduceLT, Zv, Ya, tup, tyf, l53_0, ofNe, ne_eq, r0, not_false_eq_true, decide_true, Yv, List.nil_append, List.append_nil, List.toList_toArray, List.cons_append]
    refine htz.mono ?_
    rintro _ h ⟨rfl, rfl⟩
    simp (maxSteps := 2000000) only [s53, ↓Za, ↓Zk, ↓Zs, ↓Ze, ↓Zj, ↓Zt, ↓Zg, ↓Zm, ↓Zf, ↓Zc, ↓Zb, ↓vdn, vup, Zo, Zh, Zi, Zn, Zl, List.map_cons, List.map_nil, cond_true, cond_false, aop, Zw, Zr, Zp, ev, sput, Zu, Zz, Yb, unK, Zd, Zx, Nat.reduceBEq, Nat.reduceAdd, Int.reduceBEq, Int.reduceBNe, Int.reduceLT, Zv, Ya, tup, tyf, nilK, fldA fld_62_1 esz_60, ldn, ix v hvl, ld v hvl, andU (nb64 g v) ht, Yv, List.nil_append, List.append_nil, List.toList_toArray, List.cons_append]
    refine hon.mono ?_
    rintro _ h ⟨rfl, rfl⟩
    by_cases c1 : (c : Int) ≤ 1
    · simp (maxSteps := 2000000) only [s53, ↓Za, ↓Zk, ↓Zs, ↓Ze, ↓Zj, ↓Zt, ↓Zg, ↓Zm, ↓Zf, ↓Zc, ↓Zb, ↓vdn, vup, Zo, Zh, Zi, Zn, Zl, List.map_cons, List.map_nil, cond_true, cond_false, aop, Zw, Zr, Zp, ev, sput, Zu, Zz, Yb, unK, Zd, Zx, Nat.reduceBEq, Nat.reduceAdd, Int.reduceBEq, Int.reduceBNe, Int.reduceLT, Zv, Ya, tup, tyf, c1]
      exact hQ4 _ _ _ (hQ3 _ _ _ (go v _ hb hcd _ (by simp (maxSteps := 2000000) only [↓Za, ↓Zk, ↓Zs, ↓Ze, ↓Zj, ↓Zt, ↓Zg, ↓Zm, ↓Zf, ↓Zc, ↓Zb, ↓vdn, vup, Zo, Zh, Zi, Zn, Zl, List.map_cons, List.map_nil, cond_true, cond_false, aop, Zw, Zr, Zp, ev, sput, Zu, Zz, Yb, unK, Zd, Zx, Nat.reduceBEq, Nat.reduceAdd, Int.reduceBEq, Int.reduceBNe, Int.reduceLT, Zv, Ya, tup, tyf])))
    · by_cases cd : d < (c : Int)
      · simp (maxSteps := 2000000) only [s53, ↓Za, ↓Zk, ↓Zs, ↓Ze, ↓Zj, ↓Zt, ↓Zg, ↓Zm, ↓Zf, ↓Zc, ↓Zb, ↓vdn, vup, Zo, Zh, Zi, Zn, Zl, List.map_cons, List.map_nil, cond_true, cond_false, aop, Zw, Zr, Zp, ev, sput, Zu, Zz, Yb, unK, Zd, Zx, Nat.reduceBEq, Nat.reduceAdd, Int.reduceBEq, Int.reduceBNe, Int.reduceLT, Zv, Ya, tup, tyf, c1, gt_iff_lt, cd, subU1 (show 1 ≤ r by omega) r64, andU r64 (show r - 1 < 18446744073709551616 by omega)]
        exact hQ4 _ _ _ ⟨(r &&& (r - 1), v, c), ⟨by simp only; omega, hsb, .inr ⟨v, rfl, hb, by rw [← hcd], by omega⟩⟩, hlt, by simp (maxSteps := 2000000) only [↓Za, ↓Zk, ↓Zs, ↓Ze, ↓Zj, ↓Zt, ↓Zg, ↓Zm, ↓Zf, ↓Zc, ↓Zb, ↓vdn, vup, Zo, Zh, Zi, Zn, Zl, List.map_cons, List.map_nil, cond_true, cond_false, aop, Zw, Zr, Zp, ev, sput, Zu, Zz, Yb, unK, Zd, Zx, Nat.reduceBEq, Nat.reduceAdd, Int.reduceBEq, Int.reduceBNe, Int.reduceLT, Zv, Ya, tup, tyf], rfl⟩
      · have hp2 : pickI nr t (r &&& (r - 1)) p d := by
          rcases hp with ⟨_, h8, _⟩ | h9
          · omega
          · exact .inr h9
        simp (maxSteps := 2000000) only [s53, ↓Za, ↓Zk, ↓Zs, ↓Ze, ↓Zj, ↓Zt, ↓Zg, ↓Zm, ↓Zf, ↓Zc, ↓Zb, ↓vdn, vup, Zo, Zh, Zi, Zn, Zl, List.map_cons, List.map_nil, cond_true, cond_false, aop, Zw, Zr, Zp, ev, sput, Zu, Zz, Yb, unK, Zd, Zx, Nat.reduceBEq, Nat.reduceAdd, Int.reduceBEq, Int.reduceBNe, Int.reduceLT, Zv, Ya, tup, tyf, c1, gt_iff_lt, cd, subU1 (show 1 ≤ r by omega) r64, andU r64 (show r - 1 < 18446744073709551616 by omega)]
        exact hQ4 _ _ _ ⟨(r &&& (r - 1), p, d), ⟨by simp only; omega, hsb, hp2⟩, hlt, by simp (maxSteps := 2000000) only [↓Za, ↓Zk, ↓Zs, ↓Ze, ↓Zj, ↓Zt, ↓Zg, ↓Zm, ↓Zf, ↓Zc, ↓Zb, ↓vdn, vup, Zo, Zh, Zi, Zn, Zl, List.map_cons, List.map_nil, cond_true, cond_false, aop, Zw, Zr, Zp, ev, sput, Zu, Zz, Yb, unK, Zd, Zx, Nat.reduceBEq, Nat.reduceAdd, Int.reduceBEq, Int.reduceBNe, Int.reduceLT, Zv, Ya, tup, tyf], rfl⟩
end Go.Proofs.Tryd.Am

namespace Go.Proofs.Tryd.Am
open Go.Am Sr
set_option maxRecDepth 100000
set_option maxHeartbeats 1000000

theorem shrAll {m : Nat} (h : m ≤ 64) : shrV .u64 18446744073709551615 ((64 - m : Nat) : Int) = ((2 ^ m - 1 : Nat) : Int) := by
  have e : ∀ m, m ≤ 64 → 18446744073709551615 / 2 ^ (64 - m) = 2 ^ m - 1 := by decide
  have := shrU' (a := 18446744073709551615) (k := ((64 - m : Nat) : Int)) (y := 64 - m) rfl (by decide)
  rw [e m h] at this; exact this
theorem sub64 {m : Nat} (h : m ≤ 64) : subV .i64 64 (m : Int) = ((64 - m : Nat) : Int) := by rw [subV_id (by omega) (by omega)]; omega
theorem subN1 {n : Nat} (h1 : 1 ≤ n) (h : n < 9223372036854775808) : subV .i64 (n : Int) 1 = ((n - 1 : Nat) : Int) := by rw [subV_id (by omega) (by omega)]; omega
theorem litI1 {h : Yd} {x : Int} (K : Value → Yd → Prop) : Yt prog h 22 1 [(0, Zy x)] K = K (.slice (some ⟨h.length, 0, none⟩) 1 1) (h ++ [.ints [x] 3 false]) := by
  simp only [Yt, We, zero_3, Xk, reps, fillL, mkb, Xl, Vh, cellsOf, List.length_singleton, Nat.mul_one, Nat.zero_mul, Nat.zero_add]
  exact propext ⟨fun h => h.2.2.2, fun h => ⟨trivial, by decide, by decide, h⟩⟩
def RSI (h hp : Yd) (ov : Value) (xs : List Int) : Prop := OwnSl 3 hp ov xs ∧ Ext (fun _ => False) h hp ∧ ∀ b, Yq ov = some b → h.length ≤ b
theorem RSI.nil (h : Yd) : RSI h h (.slice none 0 0) [] := ⟨.inl ⟨rfl, rfl⟩, Ext.refl _ _, fun b hb => by cases hb⟩
theorem RSI.push {h hp : Yd} {ov : Value} {xs : List Int} (s : RSI h hp ov xs) {x : Int} (hn : xs.length < 1099511627776) {K : Value → Yd → Prop} (hk : ∀ v' h', RSI h h' v' (xs ++ [x]) → K v' h') :
    Yz prog (hp ++ [.ints [x] 3 false]) 22 22 ov (.slice (some ⟨hp.length, 0, none⟩) 1 1) K := by
  obtain ⟨hown, hE, hblk⟩ := s
  have hx1 : Ext (fun _ => False) hp (hp ++ [.ints [x] 3 false]) := Ext.app _ _ _
  refine (hown.ext hx1 fun _ _ => id).append app_22_22 hn (Xa _ _) fun v' h' ho hE' hb => hk v' h' ⟨ho, ?_, fun b hbb => ?_⟩
  · have h1 := hE.1
    have h2 := hx1.1
    have h3 := hE'.1
    refine ⟨by omega, fun i hi _ => ?_⟩
    rw [hE'.2 i (by omega) fun hbb => by have := hblk i hbb; omega, hx1.2 i (by omega) id]
    exact hE.2 i hi id
  · rcases hb with h1 | ⟨b', h1, h2⟩
    · exact hblk b (h1 ▸ hbb)
    · rw [h1] at hbb; cases hbb; have := hE.1; have := hx1.1; omega

def codeR (h' : Yd) (xs : List Int) (k : Int) (r : Value) : Prop :=
  if grs xs = true ∧ 1 ≤ k ∧ k ≤ 3 then (if wn xs k.toNat ≤ 64 then ∃ w, r = .tuple #[w, .int .i64 0] ∧ OwnSl 3 h' w ((codeL (Xr xs k.toNat)).map Int.ofNat) else r = .tuple #[.slice none 0 0, .int .i64 6]) else r = .tuple #[.slice none 0 0, .int .i64 2]

theorem code_loop [BitTab prog 0] {h : Yd} {b : Nat} {nr : List Nat} (w : WO h b nr) (g : Gr nr) {N : Env → Yd → Prop} {Q0 : Exit → Env → Yd → Prop}
    (hN : ∀ hp ov e, RSI h hp ov ((codeL nr).map Int.ofNat) → ELe e [(4, .slice none 0 0), (5, .int .i64 0), (10, ov)] → N e hp) :
    aw prog 81 (.seq q19_9 (.block 0 (.loop l19_0))) (Zw N Q0) [(4, .slice none 0 0), (5, .int .i64 0), (6, pt b), (8, vu (2 ^ nr.length - 1)), (9, Zy (A nr (2 ^ nr.length - 1) : Nat)), (10, .slice none 0 0)] h := by
  have n64 := g.len
  have hnn : ∀ i : Nat, (0 : Int) ≤ (i : Int) := Int.natCast_nonneg
  have w0 := w
  obtain ⟨nv0, hc0, hv0⟩ := w0
  have ldl : ∀ {K : Value → Prop}, Xs prog h 3 (.pointer (some ⟨b, 0, none⟩)) K = K (Zy nr.length) := fun {K} => loadC (o := 0) hc0 Xj rfl
  simp (maxSteps := 2000000) only [s19, ↓Za, ↓Zk, ↓Zs, ↓Ze, ↓Zj, ↓Zt, ↓Zg, ↓Zm, ↓Zf, ↓Zc, ↓Zb, ↓vdn, vup, Zo, Zh, Zi, Zn, Zl, List.map_cons, List.map_nil, cond_true, cond_false, aop, Zw, Zr, Zp, ev, sput, Zu, Zz, Yb, unK, Zd, Zx, Nat.reduceBEq, Nat.reduceAdd, Int.reduceBEq, Int.reduceBNe, Int.reduceLT, Zv, Ya, tup, tyf, nilK, fldA fld_62_0 Xk, ldl, ↓Xc]
  refine Yg fun Q hQ => ?_
  refine Wp (γ := Nat × Value × Yd) (fun s => s.1 ≤ nr.length ∧ RSI h s.2.2 s.2.1 ((cAt nr s.1).2.2.map Int.ofNat))
    (fun s => ([(4, .slice none 0 0), (5, .int .i64 0), (6, pt b), (8, vu (cAt nr s.1).1), (9, Zy ((cAt nr s.1).2.1 : Nat)), (10, s.2.1), (44, Zy nr.length), (45, Zy s.1)], s.2.2)) (fun s => nr.length - s.1) (0, .slice none 0 0, h) ⟨Nat.zero_le _, RSI.nil h⟩ (by simp (maxSteps := 2000000) only [↓Za, ↓Zk, ↓Zs, ↓Ze, ↓Zj, ↓Zt, ↓Zg, ↓Zm, ↓Zf, ↓Zc, ↓Zb, ↓vdn, vup, Zo, Zh, Zi, Zn, Zl, List.map_cons, List.map_nil, cond_true, cond_false, aop, Zw, Zr, Zp, ev, sput, Zu, Zz, Yb, unK, Zd, Zx, Nat.reduceBEq, Nat.reduceAdd, Int.reduceBEq, Int.reduceBNe, Int.reduceLT, Zv, Ya, tup, tyf, Int.natCast_zero, cAt, List.range_zero, List.foldl_nil]) rfl ?_
  rintro ⟨i, ov, hp⟩ ⟨hi, hs⟩
  simp only at hi hs
  refine Wo fun Q2 hQ2 => ?_
  by_cases hin : (i : Int) < nr.length
  · have hi' : i < nr.length := by omega
    obtain ⟨i1, i2, i3⟩ := cAt_inv g i
    have es := cAt_succ nr i
    generalize cAt nr i = c at i1 i2 i3 es hs
    obtain ⟨left, need, out⟩ := c
    simp only at i1 i2 i3 hs
    have hl64 := lt64 g i1
    have hnd := A_le nr left
    rw [← i2] at hnd
    cases hb : left.testBit i with
    | false =>
      have e : cAt nr (i + 1) = (left, need, out) := by rw [es, cStep, if_neg (by simp only [hb]; decide)]
      simp (maxSteps := 2000000) only [s19, ↓Za, ↓Zk, ↓Zs, ↓Ze, ↓Zj, ↓Zt, ↓Zg, ↓Zm, ↓Zf, ↓Zc, ↓Zb, ↓vdn, vup, Zo, Zh, Zi, Zn, Zl, List.map_cons, List.map_nil, cond_true, cond_false, aop, Zw, Zr, Zp, ev, sput, Zu, Zz, Yb, unK, Zd, Zx, Nat.reduceBEq, Nat.reduceAdd, Int.reduceBEq, Int.reduceBNe, Int.reduceLT, Zv, Ya, tup, tyf, l19_0, hin, hnn, testU hl64, hb, beq0, Bool.not_false, Bool.false_eq_true, if_false, add1 (show i < 9223372036854775807 by omega)]
      exact hQ2 _ _ _ ⟨(i + 1, ov, hp), ⟨by simp only; omega, by simp only [e]; exact hs⟩, by simp only; omega, by simp (maxSteps := 2000000) only [↓Za, ↓Zk, ↓Zs, ↓Ze, ↓Zj, ↓Zt, ↓Zg, ↓Zm, ↓Zf, ↓Zc, ↓Zb, ↓vdn, vup, Zo, Zh, Zi, Zn, Zl, List.map_cons, List.map_nil, cond_true, cond_false, aop, Zw, Zr, Zp, ev, sput, Zu, Zz, Yb, unK, Zd, Zx, Nat.reduceBEq, Nat.reduceAdd, Int.reduceBEq, Int.reduceBNe, Int.reduceLT, Zv, Ya, tup, tyf, e], rfl⟩
    | true =>
      obtain ⟨nv, hc, hv⟩ := w.ext hs.2.1
      have ldn : ∀ {K : Value → Prop}, Xs prog hp 60 (.pointer (some ⟨b, 1, none⟩)) K = K nv := fun {K} => loadC (o := 1) hc shp_60 rfl
      have ix : ∀ {K : Value → Prop}, Xg prog 60 nv (Zy i) K = K (Wq nv 1 i) := fun {K} => hv.idx el_60 esz_63 (by rw [List.length_map]; exact hi') K
      have ld : ∀ {K : Value → Prop}, Xs prog hp 63 (Wq nv 1 i) K = K (vu (nb nr i)) := fun {K} => by
        rw [hv.load shp_63 (by rw [List.length_map]; exact hi'), getD_vu hi']
      have hi64 : i < 64 := by omega
      have hcutU : Wi .andNot .u64 ((less left (2 ^ i) : Nat) : Int) ((nb nr i : Nat) : Int) = ((cut nr left i : Nat) : Int) := by
        rw [lessU (lt64 g (less_lt i1)) (nb64 g i), cut_swap]
      have hmo := most_call (w.ext hs.2.1) g (cut nr left i) (cut_lt i1)
      have hp1 := A_pos g (Nat.lt_of_lt_of_le i1 (Nat.pow_le_pow_right (by decide) g.len)) hb
      have a1 := A_le nr (cut nr left i)
      have e1 : addV .i64 1 ((A nr (cut nr left i) : Nat) : Int) = ((1 + A nr (cut nr left i) : Nat) : Int) := by rw [Vm (by omega) (by omega)]; omega
      simp (maxSteps := 2000000) only [s19, ↓Za, ↓Zk, ↓Zs, ↓Ze, ↓Zj, ↓Zt, ↓Zg, ↓Zm, ↓Zf, ↓Zc, ↓Zb, ↓vdn, vup, Zo, Zh, Zi, Zn, Zl, List.map_cons, List.map_nil, cond_true, cond_false, aop, Zw, Zr, Zp, ev, sput, Zu, Zz, Yb, unK, Zd, Zx, Nat.reduceBEq, Nat.reduceAdd, Int.reduceBEq, Int.reduceBNe, Int.reduceLT, Zv, Ya, tup, tyf, l19_0, hin, hnn, testU hl64, hb, beq0, Bool.not_true, if_true, shlU1 hi64, lessU hl64 (bit64 hi64), nilK, fldA fld_62_1 esz_60, ldn, ix, ld, hcutU, Yv, List.nil_append, List.append_nil, List.toList_toArray, List.cons_append]
      refine hmo.mono ?_
      rintro _ hp ⟨rfl, rfl⟩
      by_cases hq : 1 + A nr (cut nr left i) = need
      · have e : cAt nr (i + 1) = (cut nr left i, need - 1, out ++ [i]) := by rw [es, cStep, if_pos (by exact hb), if_pos (by exact hq)]
        have hq2 : (((1 + A nr (cut nr left i) : Nat) : Int) == ((need : Nat) : Int)) = true := by rw [hq]; exact beq_self_eq_true _
        simp (maxSteps := 2000000) only [s19, ↓Za, ↓Zk, ↓Zs, ↓Ze, ↓Zj, ↓Zt, ↓Zg, ↓Zm, ↓Zf, ↓Zc, ↓Zb, ↓vdn, vup, Zo, Zh, Zi, Zn, Zl, List.map_cons, List.map_nil, cond_true, cond_false, aop, Zw, Zr, Zp, ev, sput, Zu, Zz, Yb, unK, Zd, Zx, Nat.reduceBEq, Nat.reduceAdd, Int.reduceBEq, Int.reduceBNe, Int.reduceLT, Zv, Ya, tup, tyf, e1, hq2, litI1]
        refine hs.push (by rw [List.length_map]; omega) fun v' h' s' => ?_
        simp (maxSteps := 2000000) only [s19, ↓Za, ↓Zk, ↓Zs, ↓Ze, ↓Zj, ↓Zt, ↓Zg, ↓Zm, ↓Zf, ↓Zc, ↓Zb, ↓vdn, vup, Zo, Zh, Zi, Zn, Zl, List.map_cons, List.map_nil, cond_true, cond_false, aop, Zw, Zr, Zp, ev, sput, Zu, Zz, Yb, unK, Zd, Zx, Nat.reduceBEq, Nat.reduceAdd, Int.reduceBEq, Int.reduceBNe, Int.reduceLT, Zv, Ya, tup, tyf, subN1 (show 1 ≤ need by omega) (show need < 9223372036854775808 by omega), add1 (show i < 9223372036854775807 by omega)]
        have em : (out ++ [i]).map Int.ofNat = out.map Int.ofNat ++ [(i : Int)] := by rw [List.map_append]; rfl
        exact hQ2 _ _ _ ⟨(i + 1, v', h'), ⟨by simp only; omega, by simp only [e, em]; exact s'⟩, by simp only; omega, by simp (maxSteps := 2000000) only [↓Za, ↓Zk, ↓Zs, ↓Ze, ↓Zj, ↓Zt, ↓Zg, ↓Zm, ↓Zf, ↓Zc, ↓Zb, ↓vdn, vup, Zo, Zh, Zi, Zn, Zl, List.map_cons, List.map_nil, cond_true, cond_false, aop, Zw, Zr, Zp, ev, sput, Zu, Zz, Yb, unK, Zd, Zx, Nat.reduceBEq, Nat.reduceAdd, Int.reduceBEq, Int.reduceBNe, Int.reduceLT, Zv, Ya, tup, tyf, e], rfl⟩
      · have e : cAt nr (i + 1) = (less left (2 ^ i), need, out) := by rw [es, cStep, if_pos (by exact hb), if_neg (by exact hq)]
        have hq2 : (((1 + A nr (cut nr left i) : Nat) : Int) == ((need : Nat) : Int)) = false := by
          rw [beq_eq_false_iff_ne]; omega
        simp (maxSteps := 2000000) only [s19, ↓Za, ↓Zk, ↓Zs, ↓Ze, ↓Zj, ↓Zt, ↓Zg, ↓Zm, ↓Zf, ↓Zc, ↓Zb, ↓vdn, vup, Zo, Zh, Zi, Zn, Zl, List.map_cons, List.map_nil, cond_true, cond_false, aop, Zw, Zr, Zp, ev, sput, Zu, Zz, Yb, unK, Zd, Zx, Nat.reduceBEq, Nat.reduceAdd, Int.reduceBEq, Int.reduceBNe, Int.reduceLT, Zv, Ya, tup, tyf, e1, hq2, add1 (show i < 9223372036854775807 by omega)]
        exact hQ2 _ _ _ ⟨(i + 1, ov, hp), ⟨by simp only; omega, by simp only [e]; exact hs⟩, by simp only; omega, by simp (maxSteps := 2000000) only [↓Za, ↓Zk, ↓Zs, ↓Ze, ↓Zj, ↓Zt, ↓Zg, ↓Zm, ↓Zf, ↓Zc, ↓Zb, ↓vdn, vup, Zo, Zh, Zi, Zn, Zl, List.map_cons, List.map_nil, cond_true, cond_false, aop, Zw, Zr, Zp, ev, sput, Zu, Zz, Yb, unK, Zd, Zx, Nat.reduceBEq, Nat.reduceAdd, Int.reduceBEq, Int.reduceBNe, Int.reduceLT, Zv, Ya, tup, tyf, e], rfl⟩
  · obtain rfl : i = nr.length := by omega
    simp (maxSteps := 2000000) only [s19, ↓Za, ↓Zk, ↓Zs, ↓Ze, ↓Zj, ↓Zt, ↓Zg, ↓Zm, ↓Zf, ↓Zc, ↓Zb, ↓vdn, vup, Zo, Zh, Zi, Zn, Zl, List.map_cons, List.map_nil, cond_true, cond_false, aop, Zw, Zr, Zp, ev, sput, Zu, Zz, Yb, unK, Zd, Zx, Nat.reduceBEq, Nat.reduceAdd, Int.reduceBEq, Int.reduceBNe, Int.reduceLT, Zv, Ya, tup, tyf, l19_0, Int.lt_irrefl]
    refine hQ2 _ _ _ (hQ _ _ _ ?_)
    simp (maxSteps := 2000000) only [s19, ↓Za, ↓Zk, ↓Zs, ↓Ze, ↓Zj, ↓Zt, ↓Zg, ↓Zm, ↓Zf, ↓Zc, ↓Zb, ↓vdn, vup, Zo, Zh, Zi, Zn, Zl, List.map_cons, List.map_nil, cond_true, cond_false, aop, Zw, Zr, Zp, ev, sput, Zu, Zz, Yb, unK, Zd, Zx, Nat.reduceBEq, Nat.reduceAdd, Int.reduceBEq, Int.reduceBNe, Int.reduceLT, Zv, Ya, tup, tyf, if_true]
    exact hN hp ov _ hs (by simp (maxSteps := 2000000) only [↓Za, ↓Zk, ↓Zs, ↓Ze, ↓Zj, ↓Zt, ↓Zg, ↓Zm, ↓Zf, ↓Zc, ↓Zb, ↓vdn, vup, Zo, Zh, Zi, Zn, Zl, List.map_cons, List.map_nil, cond_true, cond_false, aop, Zw, Zr, Zp, ev, sput, Zu, Zz, Yb, unK, Zd, Zx, Nat.reduceBEq, Nat.reduceAdd, Int.reduceBEq, Int.reduceBNe, Int.reduceLT, Zv, Ya, tup, tyf])

theorem s19_callW [Tabs Tryd.prog] {args : List Value} {h : Yd} {Q : Value → Yd → Prop} (hsz : args.length ≤ 81) (hk : AWS Tryd.prog 81 s19 (Zv Tryd.prog [.tmp 4, .tmp 5] Q) (Zp 0 args) h) : ACall Tryd.prog 19 args h Q :=
  Xq Tryd.func19 rfl (enters_of Tryd.func19 (by kernel_rfl) rfl) rfl rfl (by decide) s19_strip s19_ok hsz hk
theorem code_call [BitTab prog 0] {h : Yd} {v : Value} {xs : List Int} (hv : IntSl h v xs) (hl : xs.length < 9223372036854775808) (hx : ∀ x ∈ xs, -9223372036854775808 ≤ x ∧ x < 9223372036854775808) {k : Int} :
    ACall prog 19 [v, Zy k] h fun r h' => Ext (fun _ => False) h h' ∧ codeR h' xs k r := by
  have hval := valid_call hv hl hx
  refine s19_callW (by simp) ?_
  simp only [s19]
  refine Yc fun N hN => ?_
  simp (maxSteps := 2000000) only [s19, ↓Za, ↓Zk, ↓Zs, ↓Ze, ↓Zj, ↓Zt, ↓Zg, ↓Zm, ↓Zf, ↓Zc, ↓Zb, ↓vdn, vup, Zo, Zh, Zi, Zn, Zl, List.map_cons, List.map_nil, cond_true, cond_false, aop, Zw, Zr, Zp, ev, sput, Zu, Zz, Yb, unK, Zd, Zx, Nat.reduceBEq, Nat.reduceAdd, Int.reduceBEq, Int.reduceBNe, Int.reduceLT, Zv, Ya, tup, tyf]
  refine hN [(0, v), (1, Zy k), (4, .slice none 0 0), (5, .int .i64 0)] _ _ ?_ (by simp (maxSteps := 2000000) only [↓Za, ↓Zk, ↓Zs, ↓Ze, ↓Zj, ↓Zt, ↓Zg, ↓Zm, ↓Zf, ↓Zc, ↓Zb, ↓vdn, vup, Zo, Zh, Zi, Zn, Zl, List.map_cons, List.map_nil, cond_true, cond_false, aop, Zw, Zr, Zp, ev, sput, Zu, Zz, Yb, unK, Zd, Zx, Nat.reduceBEq, Nat.reduceAdd, Int.reduceBEq, Int.reduceBNe, Int.reduceLT, Zv, Ya, tup, tyf])
  clear hN N
  refine Yc fun N hN => ?_
  simp (maxSteps := 2000000) only [s19, ↓Za, ↓Zk, ↓Zs, ↓Ze, ↓Zj, ↓Zt, ↓Zg, ↓Zm, ↓Zf, ↓Zc, ↓Zb, ↓vdn, vup, Zo, Zh, Zi, Zn, Zl, List.map_cons, List.map_nil, cond_true, cond_false, aop, Zw, Zr, Zp, ev, sput, Zu, Zz, Yb, unK, Zd, Zx, Nat.reduceBEq, Nat.reduceAdd, Int.reduceBEq, Int.reduceBNe, Int.reduceLT, Zv, Ya, tup, tyf, Yv, List.nil_append, List.append_nil, List.toList_toArray, List.cons_append]
  refine hval.mono ?_
  rintro _ h ⟨rfl, rfl⟩
  cases hg : grs xs with
  | false =>
    simp (maxSteps := 2000000) only [s19, ↓Za, ↓Zk, ↓Zs, ↓Ze, ↓Zj, ↓Zt, ↓Zg, ↓Zm, ↓Zf, ↓Zc, ↓Zb, ↓vdn, vup, Zo, Zh, Zi, Zn, Zl, List.map_cons, List.map_nil, cond_true, cond_false, aop, Zw, Zr, Zp, ev, sput, Zu, Zz, Yb, unK, Zd, Zx, Nat.reduceBEq, Nat.reduceAdd, Int.reduceBEq, Int.reduceBNe, Int.reduceLT, Zv, Ya, tup, tyf, hg, Bool.not_false]
    exact ⟨Ext.refl _ _, by rw [codeR, if_neg (by rw [hg]; exact fun h => by cases h.1)]⟩
  | true =>
  have g := Wf.1 hg
  by_cases k1 : k < 1
  · simp (maxSteps := 2000000) only [s19, ↓Za, ↓Zk, ↓Zs, ↓Ze, ↓Zj, ↓Zt, ↓Zg, ↓Zm, ↓Zf, ↓Zc, ↓Zb, ↓vdn, vup, Zo, Zh, Zi, Zn, Zl, List.map_cons, List.map_nil, cond_true, cond_false, aop, Zw, Zr, Zp, ev, sput, Zu, Zz, Yb, unK, Zd, Zx, Nat.reduceBEq, Nat.reduceAdd, Int.reduceBEq, Int.reduceBNe, Int.reduceLT, Zv, Ya, tup, tyf, hg, Bool.not_true, k1]
    exact ⟨Ext.refl _ _, by rw [codeR, if_neg (by omega)]⟩
  by_cases k3 : 3 < k
  · simp (maxSteps := 2000000) only [s19, ↓Za, ↓Zk, ↓Zs, ↓Ze, ↓Zj, ↓Zt, ↓Zg, ↓Zm, ↓Zf, ↓Zc, ↓Zb, ↓vdn, vup, Zo, Zh, Zi, Zn, Zl, List.map_cons, List.map_nil, cond_true, cond_false, aop, Zw, Zr, Zp, ev, sput, Zu, Zz, Yb, unK, Zd, Zx, Nat.reduceBEq, Nat.reduceAdd, Int.reduceBEq, Int.reduceBNe, Int.reduceLT, Zv, Ya, tup, tyf, hg, Bool.not_true, k1, gt_iff_lt, k3]
    exact ⟨Ext.refl _ _, by rw [codeR, if_neg (by omega)]⟩
  simp (maxSteps := 2000000) only [s19, ↓Za, ↓Zk, ↓Zs, ↓Ze, ↓Zj, ↓Zt, ↓Zg, ↓Zm, ↓Zf, ↓Zc, ↓Zb, ↓vdn, vup, Zo, Zh, Zi, Zn, Zl, List.map_cons, List.map_nil, cond_true, cond_false, aop, Zw, Zr, Zp, ev, sput, Zu, Zz, Yb, unK, Zd, Zx, Nat.reduceBEq, Nat.reduceAdd, Int.reduceBEq, Int.reduceBNe, Int.reduceLT, Zv, Ya, tup, tyf, hg, Bool.not_true, k1, gt_iff_lt, k3]
  obtain ⟨n, rfl⟩ : ∃ n : Nat, k = (n : Int) := ⟨k.toNat, by omega⟩
  refine hN [(0, v), (1, Zy n), (4, .slice none 0 0), (5, .int .i64 0)] _ _ ?_ (by simp (maxSteps := 2000000) only [↓Za, ↓Zk, ↓Zs, ↓Ze, ↓Zj, ↓Zt, ↓Zg, ↓Zm, ↓Zf, ↓Zc, ↓Zb, ↓vdn, vup, Zo, Zh, Zi, Zn, Zl, List.map_cons, List.map_nil, cond_true, cond_false, aop, Zw, Zr, Zp, ev, sput, Zu, Zz, Yb, unK, Zd, Zx, Nat.reduceBEq, Nat.reduceAdd, Int.reduceBEq, Int.reduceBNe, Int.reduceLT, Zv, Ya, tup, tyf])
  clear hN N
  have hcr : ∀ h' r, (if wn xs n ≤ 64 then ∃ w, r = .tuple #[w, .int .i64 0] ∧ OwnSl 3 h' w ((codeL (Xr xs n)).map Int.ofNat) else r = .tuple #[.slice none 0 0, .int .i64 6]) → codeR h' xs n r := fun h' r hr => by
    rw [codeR, if_pos ⟨hg, by omega, by omega⟩]; exact hr
  refine Yc fun N hN => ?_
  simp (maxSteps := 2000000) only [s19, ↓Za, ↓Zk, ↓Zs, ↓Ze, ↓Zj, ↓Zt, ↓Zg, ↓Zm, ↓Zf, ↓Zc, ↓Zb, ↓vdn, vup, Zo, Zh, Zi, Zn, Zl, List.map_cons, List.map_nil, cond_true, cond_false, aop, Zw, Zr, Zp, ev, sput, Zu, Zz, Yb, unK, Zd, Zx, Nat.reduceBEq, Nat.reduceAdd, Int.reduceBEq, Int.reduceBNe, Int.reduceLT, Zv, Ya, tup, tyf, Yv, List.nil_append, List.append_nil, List.toList_toArray, List.cons_append]
  refine (words_call hv g (show n ≤ 6 by omega)).mono ?_
  rintro r h1 ⟨hE, hr⟩
  by_cases hw : wn xs n ≤ 64
  · rw [if_pos hw] at hr
    obtain ⟨b, rfl, w⟩ := hr
    have gr := nearL_gr g hw
    simp (maxSteps := 2000000) only [s19, ↓Za, ↓Zk, ↓Zs, ↓Ze, ↓Zj, ↓Zt, ↓Zg, ↓Zm, ↓Zf, ↓Zc, ↓Zb, ↓vdn, vup, Zo, Zh, Zi, Zn, Zl, List.map_cons, List.map_nil, cond_true, cond_false, aop, Zw, Zr, Zp, ev, sput, Zu, Zz, Yb, unK, Zd, Zx, Nat.reduceBEq, Nat.reduceAdd, Int.reduceBEq, Int.reduceBNe, Int.reduceLT, Zv, Ya, tup, tyf]
    refine hN [(0, v), (1, Zy n), (4, .slice none 0 0), (5, .int .i64 0), (6, pt b), (7, .bool true)] _ _ ?_ (by simp (maxSteps := 2000000) only [↓Za, ↓Zk, ↓Zs, ↓Ze, ↓Zj, ↓Zt, ↓Zg, ↓Zm, ↓Zf, ↓Zc, ↓Zb, ↓vdn, vup, Zo, Zh, Zi, Zn, Zl, List.map_cons, List.map_nil, cond_true, cond_false, aop, Zw, Zr, Zp, ev, sput, Zu, Zz, Yb, unK, Zd, Zx, Nat.reduceBEq, Nat.reduceAdd, Int.reduceBEq, Int.reduceBNe, Int.reduceLT, Zv, Ya, tup, tyf])
    clear hN N
    refine Yc fun N hN => ?_
    simp (maxSteps := 2000000) only [s19, ↓Za, ↓Zk, ↓Zs, ↓Ze, ↓Zj, ↓Zt, ↓Zg, ↓Zm, ↓Zf, ↓Zc, ↓Zb, ↓vdn, vup, Zo, Zh, Zi, Zn, Zl, List.map_cons, List.map_nil, cond_true, cond_false, aop, Zw, Zr, Zp, ev, sput, Zu, Zz, Yb, unK, Zd, Zx, Nat.reduceBEq, Nat.reduceAdd, Int.reduceBEq, Int.reduceBNe, Int.reduceLT, Zv, Ya, tup, tyf, Bool.not_true]
    refine hN [(0, v), (1, Zy n), (4, .slice none 0 0), (5, .int .i64 0), (6, pt b)] _ _ ?_ (by simp (maxSteps := 2000000) only [↓Za, ↓Zk, ↓Zs, ↓Ze, ↓Zj, ↓Zt, ↓Zg, ↓Zm, ↓Zf, ↓Zc, ↓Zb, ↓vdn, vup, Zo, Zh, Zi, Zn, Zl, List.map_cons, List.map_nil, cond_true, cond_false, aop, Zw, Zr, Zp, ev, sput, Zu, Zz, Yb, unK, Zd, Zx, Nat.reduceBEq, Nat.reduceAdd, Int.reduceBEq, Int.reduceBNe, Int.reduceLT, Zv, Ya, tup, tyf])
    clear hN N
    have w0 := w
    obtain ⟨nv0, hc0, hv0⟩ := w0
    have ldl : ∀ {K : Value → Prop}, Xs prog h1 3 (.pointer (some ⟨b, 0, none⟩)) K = K (Zy (Xr xs n).length) := fun {K} => loadC (o := 0) hc0 Xj rfl
    refine Yc fun N hN => ?_
    have n64 := gr.len
    have hnn : (0 : Int) ≤ ((64 - (Xr xs n).length : Nat) : Int) := Int.natCast_nonneg _
    simp (maxSteps := 2000000) only [s19, ↓Za, ↓Zk, ↓Zs, ↓Ze, ↓Zj, ↓Zt, ↓Zg, ↓Zm, ↓Zf, ↓Zc, ↓Zb, ↓vdn, vup, Zo, Zh, Zi, Zn, Zl, List.map_cons, List.map_nil, cond_true, cond_false, aop, Zw, Zr, Zp, ev, sput, Zu, Zz, Yb, unK, Zd, Zx, Nat.reduceBEq, Nat.reduceAdd, Int.reduceBEq, Int.reduceBNe, Int.reduceLT, Zv, Ya, tup, tyf, nilK, fldA fld_62_0 Xk, ldl, sub64 n64, hnn, shrAll n64]
    refine hN [(4, .slice none 0 0), (5, .int .i64 0), (6, pt b), (8, vu (2 ^ (Xr xs n).length - 1))] _ _ ?_ (by simp (maxSteps := 2000000) only [↓Za, ↓Zk, ↓Zs, ↓Ze, ↓Zj, ↓Zt, ↓Zg, ↓Zm, ↓Zf, ↓Zc, ↓Zb, ↓vdn, vup, Zo, Zh, Zi, Zn, Zl, List.map_cons, List.map_nil, cond_true, cond_false, aop, Zw, Zr, Zp, ev, sput, Zu, Zz, Yb, unK, Zd, Zx, Nat.reduceBEq, Nat.reduceAdd, Int.reduceBEq, Int.reduceBNe, Int.reduceLT, Zv, Ya, tup, tyf])
    clear hN N
    refine Yc fun N hN => ?_
    simp (maxSteps := 2000000) only [s19, ↓Za, ↓Zk, ↓Zs, ↓Ze, ↓Zj, ↓Zt, ↓Zg, ↓Zm, ↓Zf, ↓Zc, ↓Zb, ↓vdn, vup, Zo, Zh, Zi, Zn, Zl, List.map_cons, List.map_nil, cond_true, cond_false, aop, Zw, Zr, Zp, ev, sput, Zu, Zz, Yb, unK, Zd, Zx, Nat.reduceBEq, Nat.reduceAdd, Int.reduceBEq, Int.reduceBNe, Int.reduceLT, Zv, Ya, tup, tyf, Yv, List.nil_append, List.append_nil, List.toList_toArray, List.cons_append]
    refine (most_call w gr (2 ^ (Xr xs n).length - 1) (by have := Nat.two_pow_pos (Xr xs n).length; omega)).mono ?_
    rintro _ h1 ⟨rfl, rfl⟩
    refine hN [(4, .slice none 0 0), (5, .int .i64 0), (6, pt b), (8, vu (2 ^ (Xr xs n).length - 1)), (9, Zy (A (Xr xs n) (2 ^ (Xr xs n).length - 1) : Nat))] _ _ ?_ (by simp (maxSteps := 2000000) only [↓Za, ↓Zk, ↓Zs, ↓Ze, ↓Zj, ↓Zt, ↓Zg, ↓Zm, ↓Zf, ↓Zc, ↓Zb, ↓vdn, vup, Zo, Zh, Zi, Zn, Zl, List.map_cons, List.map_nil, cond_true, cond_false, aop, Zw, Zr, Zp, ev, sput, Zu, Zz, Yb, unK, Zd, Zx, Nat.reduceBEq, Nat.reduceAdd, Int.reduceBEq, Int.reduceBNe, Int.reduceLT, Zv, Ya, tup, tyf])
    clear hN N
    refine Yc fun N hN => ?_
    simp (maxSteps := 2000000) only [s19, ↓Za, ↓Zk, ↓Zs, ↓Ze, ↓Zj, ↓Zt, ↓Zg, ↓Zm, ↓Zf, ↓Zc, ↓Zb, ↓vdn, vup, Zo, Zh, Zi, Zn, Zl, List.map_cons, List.map_nil, cond_true, cond_false, aop, Zw, Zr, Zp, ev, sput, Zu, Zz, Yb, unK, Zd, Zx, Nat.reduceBEq, Nat.reduceAdd, Int.reduceBEq, Int.reduceBNe, Int.reduceLT, Zv, Ya, tup, tyf]
    refine hN [(4, .slice none 0 0), (5, .int .i64 0), (6, pt b), (8, vu (2 ^ (Xr xs n).length - 1)), (9, Zy (A (Xr xs n) (2 ^ (Xr xs n).length - 1) : Nat)), (10, .slice none 0 0)] _ _ ?_ (by simp (maxSteps := 2000000) only [↓Za, ↓Zk, ↓Zs, ↓Ze, ↓Zj, ↓Zt, ↓Zg, ↓Zm, ↓Zf, ↓Zc, ↓Zb, ↓vdn, vup, Zo, Zh, Zi, Zn, Zl, List.map_cons, List.map_nil, cond_true, cond_false, aop, Zw, Zr, Zp, ev, sput, Zu, Zz, Yb, unK, Zd, Zx, Nat.reduceBEq, Nat.reduceAdd, Int.reduceBEq, Int.reduceBNe, Int.reduceLT, Zv, Ya, tup, tyf])
    clear hN N
    refine Yc fun N hN => ?_
    refine code_loop w gr fun hp ov e hs he => hN [(4, .slice none 0 0), (5, .int .i64 0), (10, ov)] _ _ ?_ he
    clear hN N
    refine Ye ?_
    simp (maxSteps := 2000000) only [s19, ↓Za, ↓Zk, ↓Zs, ↓Ze, ↓Zj, ↓Zt, ↓Zg, ↓Zm, ↓Zf, ↓Zc, ↓Zb, ↓vdn, vup, Zo, Zh, Zi, Zn, Zl, List.map_cons, List.map_nil, cond_true, cond_false, aop, Zw, Zr, Zp, ev, sput, Zu, Zz, Yb, unK, Zd, Zx, Nat.reduceBEq, Nat.reduceAdd, Int.reduceBEq, Int.reduceBNe, Int.reduceLT, Zv, Ya, tup, tyf]
    exact ⟨hE.trans hs.2.1, hcr _ _ (by rw [if_pos hw]; exact ⟨ov, rfl, hs.1⟩)⟩
  · rw [if_neg hw] at hr
    subst hr
    simp (maxSteps := 2000000) only [s19, ↓Za, ↓Zk, ↓Zs, ↓Ze, ↓Zj, ↓Zt, ↓Zg, ↓Zm, ↓Zf, ↓Zc, ↓Zb, ↓vdn, vup, Zo, Zh, Zi, Zn, Zl, List.map_cons, List.map_nil, cond_true, cond_false, aop, Zw, Zr, Zp, ev, sput, Zu, Zz, Yb, unK, Zd, Zx, Nat.reduceBEq, Nat.reduceAdd, Int.reduceBEq, Int.reduceBNe, Int.reduceLT, Zv, Ya, tup, tyf]
    refine hN [(0, v), (1, Zy n), (4, .slice none 0 0), (5, .int .i64 0), (6, .pointer none), (7, .bool false)] _ _ ?_ (by simp (maxSteps := 2000000) only [↓Za, ↓Zk, ↓Zs, ↓Ze, ↓Zj, ↓Zt, ↓Zg, ↓Zm, ↓Zf, ↓Zc, ↓Zb, ↓vdn, vup, Zo, Zh, Zi, Zn, Zl, List.map_cons, List.map_nil, cond_true, cond_false, aop, Zw, Zr, Zp, ev, sput, Zu, Zz, Yb, unK, Zd, Zx, Nat.reduceBEq, Nat.reduceAdd, Int.reduceBEq, Int.reduceBNe, Int.reduceLT, Zv, Ya, tup, tyf])
    clear hN N
    refine Ye ?_
    simp (maxSteps := 2000000) only [s19, ↓Za, ↓Zk, ↓Zs, ↓Ze, ↓Zj, ↓Zt, ↓Zg, ↓Zm, ↓Zf, ↓Zc, ↓Zb, ↓vdn, vup, Zo, Zh, Zi, Zn, Zl, List.map_cons, List.map_nil, cond_true, cond_false, aop, Zw, Zr, Zp, ev, sput, Zu, Zz, Yb, unK, Zd, Zx, Nat.reduceBEq, Nat.reduceAdd, Int.reduceBEq, Int.reduceBNe, Int.reduceLT, Zv, Ya, tup, tyf, Bool.not_false]
    exact ⟨hE, hcr _ _ (by rw [if_neg hw])⟩
end Go.Proofs.Tryd.Am

namespace Go.Proofs.Tryd.Am
open Go.Am
set_option maxRecDepth 100000
/-! 56: (planchet sure.graph).cliques -/
@[reducible] def q56_0 : SCode := .region [⟨some 2, .assign (.const (.slice none 0 0)), none⟩]
@[reducible] def q56_1 : SCode := .region [⟨some 3, .assign (.const (.slice none 0 0)), none⟩]
@[reducible] def q56_2 : SCode := .region [⟨some 4, .assign (.const (.int .i64 1)), none⟩]
@[reducible] def q56_3 : SCode := .region [⟨some 6, .move (.tmp 4), none⟩,
    ⟨some 7, .move (.tmp 0), none⟩,
    ⟨some 8, .call { callee := .value (.func 57), args := #[.tmp 7], argTypes := #[56] }, none⟩,
    ⟨some 9, .binOp .leq 3 (.tmp 6) (.tmp 8) 3, none⟩]
@[reducible] def q56_5 : SCode := .region [⟨some 12, .move (.tmp 0), none⟩,
    ⟨some 13, .call { callee := .builtin .len, args := #[.tmp 12], argTypes := #[56] }, none⟩,
    ⟨some 14, .move (.const (.int .i64 0)), none⟩]
@[reducible] def q56_6 : SCode := .region [⟨some 15, .binOp .lss 3 (.tmp 14) (.tmp 13) 3, none⟩]
@[reducible] def q56_7 : SCode := .region [⟨some 16, .move (.tmp 14), none⟩,
    ⟨some 5, .assign (.tmp 16), none⟩]
def q56_8 : SCode := .draw [⟨some 17, .move (.tmp 4), none⟩,
    ⟨some 18, .move (.tmp 5), none⟩,
    ⟨some 19, .binOp .shr 3 (.tmp 17) (.tmp 18) 3, none⟩,
    ⟨some 20, .binOp .and 3 (.tmp 19) (.const (.int .i64 1)) 3, none⟩,
    ⟨some 21, .binOp .eql 3 (.tmp 20) (.const (.int .i64 1)) 3, none⟩,
    ⟨some 22, .move (.tmp 21), none⟩,
    ⟨some 23, .move (.tmp 4), some (22, true)⟩,
    ⟨some 24, .move (.tmp 0), some (22, true)⟩,
    ⟨some 25, .move (.tmp 5), some (22, true)⟩,
    ⟨some 26, .indexAddr 56 (.tmp 24) (.tmp 25), some (22, true)⟩,
    ⟨some 27, .load 3 (.tmp 26), some (22, true)⟩,
    ⟨some 28, .binOp .andNot 3 (.tmp 23) (.tmp 27) 3, some (22, true)⟩,
    ⟨some 29, .move (.tmp 5), some (22, true)⟩,
    ⟨some 30, .binOp .shl 3 (.const (.int .i64 1)) (.tmp 29) 3, some (22, true)⟩,
    ⟨some 31, .binOp .neq 3 (.tmp 28) (.tmp 30) 3, some (22, true)⟩,
    ⟨some 32, .pick (.tmp 22) (.tmp 31) (.const (.bool false)), none⟩]
   [[], [], [0, 1], [2], [3], [4], [5], [5], [5], [7, 8, 5], [9, 5], [6, 10, 5], [5], [12, 5], [11, 13, 5], [5, 14]]
@[reducible] def q56_9 : SCode := .region [⟨some 33, .binOp .add 3 (.tmp 14) (.const (.int .i64 1)) 3, none⟩,
    ⟨some 14, .move (.tmp 33), none⟩]
def l56_0 : SCode := (.seq q56_6 (.seq (.cond (.tmp 15) .skip (.exit 2)) (.seq (.block 3 (.seq q56_7 (.seq q56_8 (.cond (.tmp 32) (.exit 1) .skip)))) q56_9)))
@[reducible] def q56_10 : SCode := .region [⟨some 34, .move (.tmp 3), none⟩,
    ⟨some 35, .move (.tmp 4), none⟩,
    ⟨some 36, .buildSlice 22 1 #[(0, .tmp 35)], none⟩,
    ⟨some 37, .call { callee := .builtin .append, args := #[.tmp 34, .tmp 36], argTypes := #[22, 22] }, none⟩,
    ⟨some 3, .assign (.tmp 37), none⟩]
@[reducible] def q56_4 : SCode := .region [⟨some 10, .move (.tmp 4), none⟩,
    ⟨some 11, .binOp .add 3 (.tmp 10) (.const (.int .i64 1)) 3, none⟩,
    ⟨some 4, .assign (.tmp 11), none⟩]
def l56_1 : SCode := (.seq (.seq q56_3 (.cond (.tmp 9) .skip (.exit 0))) (.seq (.block 1 (.seq (.seq q56_5 (.block 2 (.loop l56_0))) q56_10)) q56_4))
@[reducible] def q56_11 : SCode := .region [⟨some 38, .move (.tmp 3), none⟩,
    ⟨some 2, .assign (.tmp 38), none⟩]
def s56 : SCode := (.seq q56_0 (.scope (.seq q56_1 (.seq .skip (.seq (.seq q56_2 (.block 0 (.loop l56_1))) (.seq q56_11 .ret))))))
theorem s56_strip : Yh (Yj Tryd.f56) = s56 := by kernel_rfl
theorem s56_ok : Yw 39 (Yj Tryd.f56) = true := by kernel_rfl
/-! 57: (planchet sure.graph).all -/
@[reducible] def q57_0 : SCode := .region [⟨some 2, .assign (.const (.int .i64 0)), none⟩]
@[reducible] def q57_1 : SCode := .region [⟨some 3, .move (.tmp 0), none⟩,
    ⟨some 4, .call { callee := .builtin .len, args := #[.tmp 3], argTypes := #[56] }, none⟩,
    ⟨some 5, .binOp .shl 3 (.const (.int .i64 1)) (.tmp 4) 3, none⟩,
    ⟨some 6, .binOp .sub 3 (.tmp 5) (.const (.int .i64 1)) 3, none⟩,
    ⟨some 2, .assign (.tmp 6), none⟩]
def s57 : SCode := (.seq q57_0 (.seq q57_1 .ret))
theorem s57_strip : Yh (Yj Tryd.f57) = s57 := by kernel_rfl
theorem s57_ok : Yw 7 (Yj Tryd.f57) = true := by kernel_rfl
end Go.Proofs.Tryd.Am

namespace Go.Proofs.Tryd.Am
open Go.Am Sr
set_option maxRecDepth 100000
set_option maxHeartbeats 1000000

def gn (xs : List Int) (i : Nat) : Nat := (xs.getD i 0).toNat
def cq (xs : List Int) (s i : Nat) : Bool := !s.testBit i || (less s (gn xs i) == 2 ^ i)
def isC (xs : List Int) (s : Nat) : Bool := (List.range xs.length).all (cq xs s)
def clqTo (xs : List Int) (t : Nat) : List Nat := (List.range t).filter fun s => decide (0 < s) && isC xs s
def clq (xs : List Int) : List Nat := clqTo xs (2 ^ xs.length)
theorem clqTo_yes {xs : List Int} {t : Nat} (ht : 1 ≤ t) (h : isC xs t = true) : clqTo xs (t + 1) = clqTo xs t ++ [t] := by
  rw [clqTo, List.range_succ, List.filter_append, clqTo]
  simp [h, show 0 < t from ht]
theorem clqTo_no {xs : List Int} {t : Nat} (h : isC xs t = false) : clqTo xs (t + 1) = clqTo xs t := by
  rw [clqTo, List.range_succ, List.filter_append, clqTo]
  simp [h]
theorem clqTo_len (xs : List Int) (t : Nat) : (clqTo xs t).length ≤ t := by
  have := List.length_filter_le (fun s => decide (0 < s) && isC xs s) (List.range t)
  rw [List.length_range] at this; exact this
theorem isC_no {xs : List Int} {s i : Nat} (hi : i < xs.length) (h : cq xs s i = false) : isC xs s = false := by
  rw [isC, ← Bool.not_eq_true, List.all_eq_true]
  intro h2
  rw [h2 i (List.mem_range.2 hi)] at h; cases h
theorem isC_yes {xs : List Int} {s : Nat} (h : ∀ i, i < xs.length → cq xs s i = true) : isC xs s = true := by
  rw [isC, List.all_eq_true]
  exact fun i hi => h i (List.mem_range.1 hi)
theorem pow6N {n : Nat} (h : n ≤ 6) : 2 ^ n ≤ 64 := Nat.pow_le_pow_right (n := 2) (by decide) h
theorem gnE {xs : List Int} (g : Gs xs) {i : Nat} (hi : i < xs.length) : xs.getD i 0 = ((gn xs i : Nat) : Int) ∧ gn xs i < 64 := by
  have := gs_lt g hi
  unfold gn; omega
theorem shlI1 {n : Nat} (h : n ≤ 62) : shlV .i64 1 (n : Int) = ((2 ^ n : Nat) : Int) := by
  have h2 : 2 ^ n ≤ 2 ^ 62 := Nat.pow_le_pow_right (by decide) h
  have := shlV_nat (a := 1) (y := n) (by omega) (by omega)
  simpa using this
theorem shlM {n M : Nat} (h : n ≤ 62) (hM : 2 ^ n = M) : shlV .i64 1 (n : Int) = ((M : Nat) : Int) := by rw [shlI1 h, hM]
theorem beqN {a b : Nat} : (((a : Nat) : Int) == ((b : Nat) : Int)) = (a == b) := by
  rw [Bool.eq_iff_iff, beq_iff_eq, beq_iff_eq]; omega

theorem s57_callW [Tabs Tryd.prog] {args : List Value} {h : Yd} {Q : Value → Yd → Prop} (hsz : args.length ≤ 7) (hk : AWS Tryd.prog 7 s57 (Zv Tryd.prog [.tmp 2] Q) (Zp 0 args) h) : ACall Tryd.prog 57 args h Q :=
  Xq Tryd.func57 rfl (enters_of Tryd.func57 (by kernel_rfl) rfl) rfl rfl (by decide) s57_strip s57_ok hsz hk
theorem all_call [Tabs prog] {h : Yd} {v : Value} {xs : List Int} (hv : IntSl h v xs) (hn : xs.length ≤ 6) {M : Nat} (hM : 2 ^ xs.length = M) : APure prog 57 [v] h (Zy ((M - 1 : Nat) : Int)) := by
  have h64 := pow6N hn
  have hp := Nat.two_pow_pos xs.length
  rw [hM] at h64 hp
  refine s57_callW (by simp) ?_
  refine Ye ?_
  simp (maxSteps := 2000000) only [s57, ↓Za, ↓Zk, ↓Zs, ↓Ze, ↓Zj, ↓Zt, ↓Zg, ↓Zm, ↓Zf, ↓Zc, ↓Zb, ↓vdn, vup, Zo, Zh, Zi, Zn, Zl, List.map_cons, List.map_nil, cond_true, cond_false, aop, Zw, Zr, Zp, ev, sput, Zu, Zz, Yb, unK, Zd, Zx, Nat.reduceBEq, Nat.reduceAdd, Int.reduceBEq, Int.reduceBNe, Int.reduceLT, Zv, Ya, tup, tyf, hv.len, shlM (show xs.length ≤ 62 by omega) hM, subN1 (show 1 ≤ M by omega) (show M < 9223372036854775808 by omega)]

theorem s56_callW [Tabs Tryd.prog] {args : List Value} {h : Yd} {Q : Value → Yd → Prop} (hsz : args.length ≤ 39) (hk : AWS Tryd.prog 39 s56 (Zv Tryd.prog [.tmp 2] Q) (Zp 0 args) h) : ACall Tryd.prog 56 args h Q :=
  Xq Tryd.func56 rfl (enters_of Tryd.func56 (by kernel_rfl) rfl) rfl rfl (by decide) s56_strip s56_ok hsz hk
theorem cliques_call [Tabs prog] {h : Yd} {v : Value} {xs : List Int} (hv : IntSl h v xs) (g : Gs xs) : ACall prog 56 [v] h fun r h' => RSI h h' r ((clq xs).map Int.ofNat) := by
  have h6 := g.2.1
  have h64 := pow6N h6
  have hp0 := Nat.two_pow_pos xs.length
  obtain ⟨M, hM⟩ : ∃ M, 2 ^ xs.length = M := ⟨_, rfl⟩
  rw [hM] at h64 hp0
  have hnn : ∀ i : Nat, (0 : Int) ≤ (i : Int) := Int.natCast_nonneg
  refine s56_callW (by simp) ?_
  simp only [s56]
  refine Yc fun N1 hN1 => ?_
  simp (maxSteps := 2000000) only [s56, ↓Za, ↓Zk, ↓Zs, ↓Ze, ↓Zj, ↓Zt, ↓Zg, ↓Zm, ↓Zf, ↓Zc, ↓Zb, ↓vdn, vup, Zo, Zh, Zi, Zn, Zl, List.map_cons, List.map_nil, cond_true, cond_false, aop, Zw, Zr, Zp, ev, sput, Zu, Zz, Yb, unK, Zd, Zx, Nat.reduceBEq, Nat.reduceAdd, Int.reduceBEq, Int.reduceBNe, Int.reduceLT, Zv, Ya, tup, tyf]
  refine hN1 [(0, v), (2, .slice none 0 0)] _ _ ?_ (by simp (maxSteps := 2000000) only [↓Za, ↓Zk, ↓Zs, ↓Ze, ↓Zj, ↓Zt, ↓Zg, ↓Zm, ↓Zf, ↓Zc, ↓Zb, ↓vdn, vup, Zo, Zh, Zi, Zn, Zl, List.map_cons, List.map_nil, cond_true, cond_false, aop, Zw, Zr, Zp, ev, sput, Zu, Zz, Yb, unK, Zd, Zx, Nat.reduceBEq, Nat.reduceAdd, Int.reduceBEq, Int.reduceBNe, Int.reduceLT, Zv, Ya, tup, tyf])
  clear hN1
  try clear N1
  refine aws_scope ?_
  refine Yc fun N2 hN2 => ?_
  simp (maxSteps := 2000000) only [s56, ↓Za, ↓Zk, ↓Zs, ↓Ze, ↓Zj, ↓Zt, ↓Zg, ↓Zm, ↓Zf, ↓Zc, ↓Zb, ↓vdn, vup, Zo, Zh, Zi, Zn, Zl, List.map_cons, List.map_nil, cond_true, cond_false, aop, Zw, Zr, Zp, ev, sput, Zu, Zz, Yb, unK, Zd, Zx, Nat.reduceBEq, Nat.reduceAdd, Int.reduceBEq, Int.reduceBNe, Int.reduceLT, Zv, Ya, tup, tyf]
  refine hN2 [(0, v), (2, .slice none 0 0), (3, .slice none 0 0)] _ _ ?_ (by simp (maxSteps := 2000000) only [↓Za, ↓Zk, ↓Zs, ↓Ze, ↓Zj, ↓Zt, ↓Zg, ↓Zm, ↓Zf, ↓Zc, ↓Zb, ↓vdn, vup, Zo, Zh, Zi, Zn, Zl, List.map_cons, List.map_nil, cond_true, cond_false, aop, Zw, Zr, Zp, ev, sput, Zu, Zz, Yb, unK, Zd, Zx, Nat.reduceBEq, Nat.reduceAdd, Int.reduceBEq, Int.reduceBNe, Int.reduceLT, Zv, Ya, tup, tyf])
  clear hN2
  try clear N2
  refine Yc fun N3 hN3 => ?_
  simp (maxSteps := 2000000) only [s56, ↓Za, ↓Zk, ↓Zs, ↓Ze, ↓Zj, ↓Zt, ↓Zg, ↓Zm, ↓Zf, ↓Zc, ↓Zb, ↓vdn, vup, Zo, Zh, Zi, Zn, Zl, List.map_cons, List.map_nil, cond_true, cond_false, aop, Zw, Zr, Zp, ev, sput, Zu, Zz, Yb, unK, Zd, Zx, Nat.reduceBEq, Nat.reduceAdd, Int.reduceBEq, Int.reduceBNe, Int.reduceLT, Zv, Ya, tup, tyf]
  refine hN3 [(0, v), (2, .slice none 0 0), (3, .slice none 0 0)] _ _ ?_ (by simp (maxSteps := 2000000) only [↓Za, ↓Zk, ↓Zs, ↓Ze, ↓Zj, ↓Zt, ↓Zg, ↓Zm, ↓Zf, ↓Zc, ↓Zb, ↓vdn, vup, Zo, Zh, Zi, Zn, Zl, List.map_cons, List.map_nil, cond_true, cond_false, aop, Zw, Zr, Zp, ev, sput, Zu, Zz, Yb, unK, Zd, Zx, Nat.reduceBEq, Nat.reduceAdd, Int.reduceBEq, Int.reduceBNe, Int.reduceLT, Zv, Ya, tup, tyf])
  clear hN3
  try clear N3
  refine Yc fun Z hZ => ?_
  simp (maxSteps := 2000000) only [s56, ↓Za, ↓Zk, ↓Zs, ↓Ze, ↓Zj, ↓Zt, ↓Zg, ↓Zm, ↓Zf, ↓Zc, ↓Zb, ↓vdn, vup, Zo, Zh, Zi, Zn, Zl, List.map_cons, List.map_nil, cond_true, cond_false, aop, Zw, Zr, Zp, ev, sput, Zu, Zz, Yb, unK, Zd, Zx, Nat.reduceBEq, Nat.reduceAdd, Int.reduceBEq, Int.reduceBNe, Int.reduceLT, Zv, Ya, tup, tyf, ↓Xc]
  refine Yg fun Q hQ => ?_
  refine Xu (γ := Nat × Value × Yd) (fun s => 1 ≤ s.1 ∧ s.1 ≤ M ∧ RSI h s.2.2 s.2.1 ((clqTo xs s.1).map Int.ofNat))
    (fun s => ([(0, v), (2, .slice none 0 0), (3, s.2.1), (4, Zy s.1)], s.2.2)) (fun s => M - s.1) (1, .slice none 0 0, h) ⟨Nat.le_refl _, hp0, RSI.nil h⟩ (by simp (maxSteps := 2000000) only [↓Za, ↓Zk, ↓Zs, ↓Ze, ↓Zj, ↓Zt, ↓Zg, ↓Zm, ↓Zf, ↓Zc, ↓Zb, ↓vdn, vup, Zo, Zh, Zi, Zn, Zl, List.map_cons, List.map_nil, cond_true, cond_false, aop, Zw, Zr, Zp, ev, sput, Zu, Zz, Yb, unK, Zd, Zx, Nat.reduceBEq, Nat.reduceAdd, Int.reduceBEq, Int.reduceBNe, Int.reduceLT, Zv, Ya, tup, tyf, Int.natCast_one]) rfl ?_
  rintro ⟨t, ov, hp⟩ ⟨ht1, ht, hs⟩
  simp only at ht1 ht hs
  refine Yg fun Q2 hQ2 => ?_
  simp only [l56_1]
  have hv1 := Ys hv hs.2.1
  have ht64 : t < 9223372036854775808 := by omega
  by_cases hin : t < M
  · have hle : ((t : Nat) : Int) ≤ ((M - 1 : Nat) : Int) := by omega
    refine Yc fun N4 hN4 => ?_
    simp (maxSteps := 2000000) only [s56, ↓Za, ↓Zk, ↓Zs, ↓Ze, ↓Zj, ↓Zt, ↓Zg, ↓Zm, ↓Zf, ↓Zc, ↓Zb, ↓vdn, vup, Zo, Zh, Zi, Zn, Zl, List.map_cons, List.map_nil, cond_true, cond_false, aop, Zw, Zr, Zp, ev, sput, Zu, Zz, Yb, unK, Zd, Zx, Nat.reduceBEq, Nat.reduceAdd, Int.reduceBEq, Int.reduceBNe, Int.reduceLT, Zv, Ya, tup, tyf, Yv, List.nil_append, List.append_nil, List.toList_toArray, List.cons_append]
    refine (all_call hv1 h6 hM).mono ?_
    rintro _ hp ⟨rfl, rfl⟩
    simp (maxSteps := 2000000) only [s56, ↓Za, ↓Zk, ↓Zs, ↓Ze, ↓Zj, ↓Zt, ↓Zg, ↓Zm, ↓Zf, ↓Zc, ↓Zb, ↓vdn, vup, Zo, Zh, Zi, Zn, Zl, List.map_cons, List.map_nil, cond_true, cond_false, aop, Zw, Zr, Zp, ev, sput, Zu, Zz, Yb, unK, Zd, Zx, Nat.reduceBEq, Nat.reduceAdd, Int.reduceBEq, Int.reduceBNe, Int.reduceLT, Zv, Ya, tup, tyf, hle]
    refine hN4 [(0, v), (2, .slice none 0 0), (3, ov), (4, Zy t)] _ _ ?_ (by simp (maxSteps := 2000000) only [↓Za, ↓Zk, ↓Zs, ↓Ze, ↓Zj, ↓Zt, ↓Zg, ↓Zm, ↓Zf, ↓Zc, ↓Zb, ↓vdn, vup, Zo, Zh, Zi, Zn, Zl, List.map_cons, List.map_nil, cond_true, cond_false, aop, Zw, Zr, Zp, ev, sput, Zu, Zz, Yb, unK, Zd, Zx, Nat.reduceBEq, Nat.reduceAdd, Int.reduceBEq, Int.reduceBNe, Int.reduceLT, Zv, Ya, tup, tyf])
    clear hN4
    try clear N4
    refine Yf fun K hK => ?_
    have fin : ∀ ov2 hp2, RSI h hp2 ov2 ((clqTo xs (t + 1)).map Int.ofNat) → ∀ e, ELe e [(0, v), (2, .slice none 0 0), (3, ov2), (4, Zy t)] → K e hp2 := by
      intro ov2 hp2 s2 e he
      refine hK [(0, v), (2, .slice none 0 0), (3, ov2), (4, Zy t)] _ _ ?_ he
      refine Ye ?_
      simp (maxSteps := 2000000) only [s56, ↓Za, ↓Zk, ↓Zs, ↓Ze, ↓Zj, ↓Zt, ↓Zg, ↓Zm, ↓Zf, ↓Zc, ↓Zb, ↓vdn, vup, Zo, Zh, Zi, Zn, Zl, List.map_cons, List.map_nil, cond_true, cond_false, aop, Zw, Zr, Zp, ev, sput, Zu, Zz, Yb, unK, Zd, Zx, Nat.reduceBEq, Nat.reduceAdd, Int.reduceBEq, Int.reduceBNe, Int.reduceLT, Zv, Ya, tup, tyf, add1 (show t < 9223372036854775807 by omega)]
      exact hQ2 _ _ _ ⟨(t + 1, ov2, hp2), ⟨by simp only; omega, by simp only; omega, s2⟩, by simp only; omega, by simp (maxSteps := 2000000) only [↓Za, ↓Zk, ↓Zs, ↓Ze, ↓Zj, ↓Zt, ↓Zg, ↓Zm, ↓Zf, ↓Zc, ↓Zb, ↓vdn, vup, Zo, Zh, Zi, Zn, Zl, List.map_cons, List.map_nil, cond_true, cond_false, aop, Zw, Zr, Zp, ev, sput, Zu, Zz, Yb, unK, Zd, Zx, Nat.reduceBEq, Nat.reduceAdd, Int.reduceBEq, Int.reduceBNe, Int.reduceLT, Zv, Ya, tup, tyf], rfl⟩
    clear hK
    refine Ym ?_
    refine Yc fun N5 hN5 => ?_
    simp (maxSteps := 2000000) only [s56, ↓Za, ↓Zk, ↓Zs, ↓Ze, ↓Zj, ↓Zt, ↓Zg, ↓Zm, ↓Zf, ↓Zc, ↓Zb, ↓vdn, vup, Zo, Zh, Zi, Zn, Zl, List.map_cons, List.map_nil, cond_true, cond_false, aop, Zw, Zr, Zp, ev, sput, Zu, Zz, Yb, unK, Zd, Zx, Nat.reduceBEq, Nat.reduceAdd, Int.reduceBEq, Int.reduceBNe, Int.reduceLT, Zv, Ya, tup, tyf, hv1.len, ↓Xc]
    refine Yg fun Q3 hQ3 => ?_
    refine Wp (γ := Nat) (fun i => i ≤ xs.length ∧ ∀ k, k < i → cq xs t k = true)
      (fun i => ([(0, v), (2, .slice none 0 0), (3, ov), (4, Zy t), (13, Zy xs.length), (14, Zy i)], hp)) (fun i => xs.length - i) 0 ⟨Nat.zero_le _, fun _ h => by omega⟩ (by simp (maxSteps := 2000000) only [↓Za, ↓Zk, ↓Zs, ↓Ze, ↓Zj, ↓Zt, ↓Zg, ↓Zm, ↓Zf, ↓Zc, ↓Zb, ↓vdn, vup, Zo, Zh, Zi, Zn, Zl, List.map_cons, List.map_nil, cond_true, cond_false, aop, Zw, Zr, Zp, ev, sput, Zu, Zz, Yb, unK, Zd, Zx, Nat.reduceBEq, Nat.reduceAdd, Int.reduceBEq, Int.reduceBNe, Int.reduceLT, Zv, Ya, tup, tyf, Int.natCast_zero]) rfl ?_
    rintro i ⟨hi, hok⟩
    refine Wo fun Q4 hQ4 => ?_
    by_cases hin2 : (i : Int) < xs.length
    · have hi' : i < xs.length := by omega
      obtain ⟨hge, hgl⟩ := gnE g hi'
      simp (maxSteps := 2000000) only [s56, ↓Za, ↓Zk, ↓Zs, ↓Ze, ↓Zj, ↓Zt, ↓Zg, ↓Zm, ↓Zf, ↓Zc, ↓Zb, ↓vdn, vup, Zo, Zh, Zi, Zn, Zl, List.map_cons, List.map_nil, cond_true, cond_false, aop, Zw, Zr, Zp, ev, sput, Zu, Zz, Yb, unK, Zd, Zx, Nat.reduceBEq, Nat.reduceAdd, Int.reduceBEq, Int.reduceBNe, Int.reduceLT, Zv, Ya, tup, tyf, l56_0, hin2]
      refine Wn [] (by kernel_rfl) (by kernel_rfl) (by kernel_rfl) (by kernel_rfl) ?_
      cases hb : t.testBit i with
      | false =>
        simp (maxSteps := 2000000) only [s56, ↓Za, ↓Zk, ↓Zs, ↓Ze, ↓Zj, ↓Zt, ↓Zg, ↓Zm, ↓Zf, ↓Zc, ↓Zb, ↓vdn, vup, Zo, Zh, Zi, Zn, Zl, List.map_cons, List.map_nil, cond_true, cond_false, aop, Zw, Zr, Zp, ev, sput, Zu, Zz, Yb, unK, Zd, Zx, Nat.reduceBEq, Nat.reduceAdd, Int.reduceBEq, Int.reduceBNe, Int.reduceLT, Zv, Ya, tup, tyf, hnn, testV ht64, hb, beq1, Bool.false_eq_true, if_false, add1 (show i < 9223372036854775807 by omega)]
        refine hQ4 _ _ _ ⟨i + 1, ⟨by omega, fun k hk => ?_⟩, by omega, by simp (maxSteps := 2000000) only [↓Za, ↓Zk, ↓Zs, ↓Ze, ↓Zj, ↓Zt, ↓Zg, ↓Zm, ↓Zf, ↓Zc, ↓Zb, ↓vdn, vup, Zo, Zh, Zi, Zn, Zl, List.map_cons, List.map_nil, cond_true, cond_false, aop, Zw, Zr, Zp, ev, sput, Zu, Zz, Yb, unK, Zd, Zx, Nat.reduceBEq, Nat.reduceAdd, Int.reduceBEq, Int.reduceBNe, Int.reduceLT, Zv, Ya, tup, tyf], rfl⟩
        by_cases hki : k = i
        · subst hki; rw [cq, hb]; rfl
        · exact hok k (by omega)
      | true =>
        cases hq : (less t (gn xs i) == 2 ^ i) with
        | true =>
          simp (maxSteps := 2000000) only [s56, ↓Za, ↓Zk, ↓Zs, ↓Ze, ↓Zj, ↓Zt, ↓Zg, ↓Zm, ↓Zf, ↓Zc, ↓Zb, ↓vdn, vup, Zo, Zh, Zi, Zn, Zl, List.map_cons, List.map_nil, cond_true, cond_false, aop, Zw, Zr, Zp, ev, sput, Zu, Zz, Yb, unK, Zd, Zx, Nat.reduceBEq, Nat.reduceAdd, Int.reduceBEq, Int.reduceBNe, Int.reduceLT, Zv, Ya, tup, tyf, hnn, testV ht64, hb, beq1, if_true, hv1.idx el_56 Xk hi', hv1.load Xj hi', hge, bitsV_andNot ht64 (show gn xs i < 9223372036854775808 by omega), shlI1 (show i ≤ 62 by omega), bneN, hq, Bool.not_true, add1 (show i < 9223372036854775807 by omega)]
          refine hQ4 _ _ _ ⟨i + 1, ⟨by omega, fun k hk => ?_⟩, by omega, by simp (maxSteps := 2000000) only [↓Za, ↓Zk, ↓Zs, ↓Ze, ↓Zj, ↓Zt, ↓Zg, ↓Zm, ↓Zf, ↓Zc, ↓Zb, ↓vdn, vup, Zo, Zh, Zi, Zn, Zl, List.map_cons, List.map_nil, cond_true, cond_false, aop, Zw, Zr, Zp, ev, sput, Zu, Zz, Yb, unK, Zd, Zx, Nat.reduceBEq, Nat.reduceAdd, Int.reduceBEq, Int.reduceBNe, Int.reduceLT, Zv, Ya, tup, tyf], rfl⟩
          by_cases hki : k = i
          · subst hki; rw [cq, hq, Bool.or_true]
          · exact hok k (by omega)
        | false =>
          have hc : isC xs t = false := isC_no hi' (by rw [cq, hb, hq]; rfl)
          simp (maxSteps := 2000000) only [s56, ↓Za, ↓Zk, ↓Zs, ↓Ze, ↓Zj, ↓Zt, ↓Zg, ↓Zm, ↓Zf, ↓Zc, ↓Zb, ↓vdn, vup, Zo, Zh, Zi, Zn, Zl, List.map_cons, List.map_nil, cond_true, cond_false, aop, Zw, Zr, Zp, ev, sput, Zu, Zz, Yb, unK, Zd, Zx, Nat.reduceBEq, Nat.reduceAdd, Int.reduceBEq, Int.reduceBNe, Int.reduceLT, Zv, Ya, tup, tyf, hnn, testV ht64, hb, beq1, if_true, hv1.idx el_56 Xk hi', hv1.load Xj hi', hge, bitsV_andNot ht64 (show gn xs i < 9223372036854775808 by omega), shlI1 (show i ≤ 62 by omega), bneN, hq, Bool.not_false]
          refine hQ4 _ _ _ (hQ3 _ _ _ ?_)
          simp (maxSteps := 2000000) only [s56, ↓Za, ↓Zk, ↓Zs, ↓Ze, ↓Zj, ↓Zt, ↓Zg, ↓Zm, ↓Zf, ↓Zc, ↓Zb, ↓vdn, vup, Zo, Zh, Zi, Zn, Zl, List.map_cons, List.map_nil, cond_true, cond_false, aop, Zw, Zr, Zp, ev, sput, Zu, Zz, Yb, unK, Zd, Zx, Nat.reduceBEq, Nat.reduceAdd, Int.reduceBEq, Int.reduceBNe, Int.reduceLT, Zv, Ya, tup, tyf, Nat.reduceEqDiff, if_true, if_false]
          exact fin ov hp (by rw [clqTo_no hc]; exact hs) _ (by simp (maxSteps := 2000000) only [↓Za, ↓Zk, ↓Zs, ↓Ze, ↓Zj, ↓Zt, ↓Zg, ↓Zm, ↓Zf, ↓Zc, ↓Zb, ↓vdn, vup, Zo, Zh, Zi, Zn, Zl, List.map_cons, List.map_nil, cond_true, cond_false, aop, Zw, Zr, Zp, ev, sput, Zu, Zz, Yb, unK, Zd, Zx, Nat.reduceBEq, Nat.reduceAdd, Int.reduceBEq, Int.reduceBNe, Int.reduceLT, Zv, Ya, tup, tyf])
    · obtain rfl : i = xs.length := by omega
      have hc := isC_yes hok
      simp (maxSteps := 2000000) only [s56, ↓Za, ↓Zk, ↓Zs, ↓Ze, ↓Zj, ↓Zt, ↓Zg, ↓Zm, ↓Zf, ↓Zc, ↓Zb, ↓vdn, vup, Zo, Zh, Zi, Zn, Zl, List.map_cons, List.map_nil, cond_true, cond_false, aop, Zw, Zr, Zp, ev, sput, Zu, Zz, Yb, unK, Zd, Zx, Nat.reduceBEq, Nat.reduceAdd, Int.reduceBEq, Int.reduceBNe, Int.reduceLT, Zv, Ya, tup, tyf, l56_0, Int.lt_irrefl]
      refine hQ4 _ _ _ (hQ3 _ _ _ ?_)
      simp (maxSteps := 2000000) only [s56, ↓Za, ↓Zk, ↓Zs, ↓Ze, ↓Zj, ↓Zt, ↓Zg, ↓Zm, ↓Zf, ↓Zc, ↓Zb, ↓vdn, vup, Zo, Zh, Zi, Zn, Zl, List.map_cons, List.map_nil, cond_true, cond_false, aop, Zw, Zr, Zp, ev, sput, Zu, Zz, Yb, unK, Zd, Zx, Nat.reduceBEq, Nat.reduceAdd, Int.reduceBEq, Int.reduceBNe, Int.reduceLT, Zv, Ya, tup, tyf, if_true]
      refine hN5 [(0, v), (2, .slice none 0 0), (3, ov), (4, Zy t)] _ _ ?_ (by simp (maxSteps := 2000000) only [↓Za, ↓Zk, ↓Zs, ↓Ze, ↓Zj, ↓Zt, ↓Zg, ↓Zm, ↓Zf, ↓Zc, ↓Zb, ↓vdn, vup, Zo, Zh, Zi, Zn, Zl, List.map_cons, List.map_nil, cond_true, cond_false, aop, Zw, Zr, Zp, ev, sput, Zu, Zz, Yb, unK, Zd, Zx, Nat.reduceBEq, Nat.reduceAdd, Int.reduceBEq, Int.reduceBNe, Int.reduceLT, Zv, Ya, tup, tyf])
      clear hN5
      try clear N5
      refine Ye ?_
      simp (maxSteps := 2000000) only [s56, ↓Za, ↓Zk, ↓Zs, ↓Ze, ↓Zj, ↓Zt, ↓Zg, ↓Zm, ↓Zf, ↓Zc, ↓Zb, ↓vdn, vup, Zo, Zh, Zi, Zn, Zl, List.map_cons, List.map_nil, cond_true, cond_false, aop, Zw, Zr, Zp, ev, sput, Zu, Zz, Yb, unK, Zd, Zx, Nat.reduceBEq, Nat.reduceAdd, Int.reduceBEq, Int.reduceBNe, Int.reduceLT, Zv, Ya, tup, tyf, litI1]
      refine hs.push (by rw [List.length_map]; have := clqTo_len xs t; omega) fun v' h' s' => ?_
      exact fin v' h' (by rw [clqTo_yes ht1 hc, List.map_append]; exact s') _ (by simp (maxSteps := 2000000) only [↓Za, ↓Zk, ↓Zs, ↓Ze, ↓Zj, ↓Zt, ↓Zg, ↓Zm, ↓Zf, ↓Zc, ↓Zb, ↓vdn, vup, Zo, Zh, Zi, Zn, Zl, List.map_cons, List.map_nil, cond_true, cond_false, aop, Zw, Zr, Zp, ev, sput, Zu, Zz, Yb, unK, Zd, Zx, Nat.reduceBEq, Nat.reduceAdd, Int.reduceBEq, Int.reduceBNe, Int.reduceLT, Zv, Ya, tup, tyf])
  · obtain rfl : t = M := by omega
    have hle : ¬ ((t : Nat) : Int) ≤ ((t - 1 : Nat) : Int) := by omega
    refine Yc fun N6 hN6 => ?_
    simp (maxSteps := 2000000) only [s56, ↓Za, ↓Zk, ↓Zs, ↓Ze, ↓Zj, ↓Zt, ↓Zg, ↓Zm, ↓Zf, ↓Zc, ↓Zb, ↓vdn, vup, Zo, Zh, Zi, Zn, Zl, List.map_cons, List.map_nil, cond_true, cond_false, aop, Zw, Zr, Zp, ev, sput, Zu, Zz, Yb, unK, Zd, Zx, Nat.reduceBEq, Nat.reduceAdd, Int.reduceBEq, Int.reduceBNe, Int.reduceLT, Zv, Ya, tup, tyf, Yv, List.nil_append, List.append_nil, List.toList_toArray, List.cons_append]
    refine (all_call hv1 h6 hM).mono ?_
    rintro _ hp ⟨rfl, rfl⟩
    simp (maxSteps := 2000000) only [s56, ↓Za, ↓Zk, ↓Zs, ↓Ze, ↓Zj, ↓Zt, ↓Zg, ↓Zm, ↓Zf, ↓Zc, ↓Zb, ↓vdn, vup, Zo, Zh, Zi, Zn, Zl, List.map_cons, List.map_nil, cond_true, cond_false, aop, Zw, Zr, Zp, ev, sput, Zu, Zz, Yb, unK, Zd, Zx, Nat.reduceBEq, Nat.reduceAdd, Int.reduceBEq, Int.reduceBNe, Int.reduceLT, Zv, Ya, tup, tyf, hle]
    refine hQ2 _ _ _ (hQ _ _ _ ?_)
    simp (maxSteps := 2000000) only [s56, ↓Za, ↓Zk, ↓Zs, ↓Ze, ↓Zj, ↓Zt, ↓Zg, ↓Zm, ↓Zf, ↓Zc, ↓Zb, ↓vdn, vup, Zo, Zh, Zi, Zn, Zl, List.map_cons, List.map_nil, cond_true, cond_false, aop, Zw, Zr, Zp, ev, sput, Zu, Zz, Yb, unK, Zd, Zx, Nat.reduceBEq, Nat.reduceAdd, Int.reduceBEq, Int.reduceBNe, Int.reduceLT, Zv, Ya, tup, tyf, if_true]
    refine hZ [(0, v), (2, .slice none 0 0), (3, ov), (4, Zy t)] _ _ ?_ (by simp (maxSteps := 2000000) only [↓Za, ↓Zk, ↓Zs, ↓Ze, ↓Zj, ↓Zt, ↓Zg, ↓Zm, ↓Zf, ↓Zc, ↓Zb, ↓vdn, vup, Zo, Zh, Zi, Zn, Zl, List.map_cons, List.map_nil, cond_true, cond_false, aop, Zw, Zr, Zp, ev, sput, Zu, Zz, Yb, unK, Zd, Zx, Nat.reduceBEq, Nat.reduceAdd, Int.reduceBEq, Int.reduceBNe, Int.reduceLT, Zv, Ya, tup, tyf])
    clear hZ
    try clear Z
    refine Ye ?_
    simp (maxSteps := 2000000) only [s56, ↓Za, ↓Zk, ↓Zs, ↓Ze, ↓Zj, ↓Zt, ↓Zg, ↓Zm, ↓Zf, ↓Zc, ↓Zb, ↓vdn, vup, Zo, Zh, Zi, Zn, Zl, List.map_cons, List.map_nil, cond_true, cond_false, aop, Zw, Zr, Zp, ev, sput, Zu, Zz, Yb, unK, Zd, Zx, Nat.reduceBEq, Nat.reduceAdd, Int.reduceBEq, Int.reduceBNe, Int.reduceLT, Zv, Ya, tup, tyf, noGo_ret]
    rw [clq, hM]
    exact hs

end Go.Proofs.Tryd.Am

namespace Go.Proofs.Tryd.Am
open Go.Am Sr
set_option maxRecDepth 100000
set_option maxHeartbeats 1000000

def mn (a b : Nat) : Nat := if b < a then b else a
def cvS (s : Nat) (L : List Nat) (c : Nat) : List Nat := if c &&& s = 0 then L else L.set s (mn (L.getD s 0) (1 + L.getD (less s c) 0))
def cvJ (C : List Nat) (n s : Nat) (L : List Nat) (j : Nat) : List Nat := (C.take j).foldl (cvS s) (L.set s n)
theorem getD_setN {L : List Nat} {s x i : Nat} (hs : s < L.length) : (L.set s x).getD i 0 = if i = s then x else L.getD i 0 := by
  rw [List.getD, List.getElem?_set]
  by_cases h : s = i
  · subst h; simp [hs]
  · rw [if_neg h, if_neg (Ne.symm h)]; rfl
structure CvB (M n : Nat) (L : List Nat) : Prop where
  len : L.length = M
  le : ∀ i, L.getD i 0 ≤ n
theorem CvB.set {M n s x : Nat} {L : List Nat} (b : CvB M n L) (hs : s < M) (hx : x ≤ n) : CvB M n (L.set s x) :=
  ⟨by rw [List.length_set]; exact b.len, fun i => by rw [getD_setN (by rw [b.len]; exact hs)]; split; exact hx; exact b.le i⟩
theorem CvB.step {M n s : Nat} {L : List Nat} (b : CvB M n L) (hs : s < M) (c : Nat) : CvB M n (cvS s L c) := by
  unfold cvS
  split
  · exact b
  · refine b.set hs ?_
    have := b.le s
    unfold mn; split <;> omega
theorem cvJ_zero (C : List Nat) (n s : Nat) (L : List Nat) : cvJ C n s L 0 = L.set s n := by rw [cvJ, List.take_zero]; rfl
theorem cvJ_succ {C : List Nat} (n s : Nat) (L : List Nat) {j : Nat} (hj : j < C.length) : cvJ C n s L (j + 1) = cvS s (cvJ C n s L j) (C.getD j 0) := by
  rw [cvJ, List.take_succ_eq_append_getElem hj, List.foldl_append, cvJ, List.getD, List.getElem?_eq_getElem hj]; rfl
theorem CvB.run {C : List Nat} {M n s : Nat} {L : List Nat} (b : CvB M n L) (hs : s < M) : ∀ j, j ≤ C.length → CvB M n (cvJ C n s L j)
  | 0, _ => by rw [cvJ_zero]; exact b.set hs (Nat.le_refl _)
  | j + 1, h => by rw [cvJ_succ n s L (by omega)]; exact (b.run hs j (by omega)).step hs _
abbrev iL (L : List Nat) : List Int := L.map Int.ofNat
theorem iL_len (L : List Nat) : (iL L).length = L.length := by simp
theorem iL_get (L : List Nat) (i : Nat) : (iL L).getD i 0 = ((L.getD i 0 : Nat) : Int) := by
  rw [List.getD, List.getElem?_map, List.getD]; cases L[i]? <;> rfl
theorem iL_set (L : List Nat) (i x : Nat) : (iL L).set i ((x : Nat) : Int) = iL (L.set i x) := by simp only [iL, List.map_set]; rfl
abbrev tv (b M : Nat) : Value := .slice (some ⟨b, 0, none⟩) M M
section tab
variable {hp : Yd} {b M : Nat} {L : List Nat}
theorem tab_load (hb : hp[b]? = some (.ints (iL L) 3 false)) (hL : L.length = M) {i : Nat} (hi : i < M) {K : Value → Prop} : Xs prog hp 3 (.pointer (some ⟨b, i, none⟩)) K = K (Zy (L.getD i 0 : Nat)) := by
  have h1 := intSl_blk hb
  rw [iL_len, hL] at h1
  have := h1.load Xj (i := i) (by rw [iL_len, hL]; exact hi) K
  rw [elemP_new, iL_get] at this
  exact this
theorem tab_store (hb : hp[b]? = some (.ints (iL L) 3 false)) (hL : L.length = M) {i x : Nat} (hi : i < M) {K : Yd → Prop} : Xp prog hp 3 (.pointer (some ⟨b, i, none⟩)) (Zy (x : Nat)) K = K (hp.set b (.ints (iL (L.set i x)) 3 false)) := by
  rw [storeBI hb Xj (by rw [iL_len, hL]; exact hi), iL_set]
end tab

end Go.Proofs.Tryd.Am

namespace Go.Proofs.Tryd.Am
open Go.Am
set_option maxRecDepth 100000
/-! 35: planchet sure.Weigh -/
@[reducible] def q35_0 : SCode := .region [⟨some 2, .alloc 44, none⟩,
    ⟨some 3, .assign (.const (.int .i64 0)), none⟩]
@[reducible] def q35_1 : SCode := .region [⟨some 4, .move (.tmp 0), none⟩,
    ⟨some 5, .call { callee := .value (.func 51), args := #[.tmp 4], argTypes := #[56] }, none⟩,
    ⟨some 6, .unOp .not 4 (.tmp 5), none⟩]
@[reducible] def q35_2 : SCode := .region [⟨some 7, .build 44 #[], none⟩,
    ⟨none, .store 44 (.tmp 2) (.tmp 7), none⟩,
    ⟨some 3, .assign (.const (.int .i64 2)), none⟩]
@[reducible] def q35_3 : SCode := .region [⟨some 8, .move (.tmp 0), none⟩,
    ⟨some 9, .call { callee := .builtin .len, args := #[.tmp 8], argTypes := #[22] }, none⟩,
    ⟨some 10, .move (.tmp 0), none⟩,
    ⟨some 11, .call { callee := .value (.func 56), args := #[.tmp 10], argTypes := #[56] }, none⟩,
    ⟨some 12, .call { callee := .value (.func 61), args := #[.tmp 9, .tmp 11], argTypes := #[3, 22] }, none⟩,
    ⟨none, .store 44 (.tmp 2) (.tmp 12), none⟩,
    ⟨some 3, .assign (.const (.int .i64 0)), none⟩]
def s35 : SCode := (.seq q35_0 (.seq (.seq q35_1 (.cond (.tmp 6) (.seq q35_2 .ret) .skip)) (.seq q35_3 .ret)))
theorem s35_strip : Yh (Yj Tryd.f35) = s35 := by kernel_rfl
theorem s35_ok : Yw 13 (Yj Tryd.f35) = true := by kernel_rfl
/-! 61: planchet sure.packing -/
@[reducible] def q61_0 : SCode := .region [⟨some 2, .box 3 (.tmp 0), none⟩,
    ⟨some 3, .box 22 (.tmp 1), none⟩,
    ⟨some 4, .alloc 44, none⟩]
@[reducible] def q61_1 : SCode := .region [⟨some 14, .load 22 (.tmp 3), none⟩,
    ⟨some 15, .call { callee := .value (.func 26), args := #[.tmp 14], argTypes := #[22] }, none⟩,
    ⟨some 16, .makeFunc (.func 82) #[] #[.tmp 3], none⟩,
    ⟨some 17, .call { callee := .value (.func 81), args := #[.tmp 15, .tmp 16], argTypes := #[22, 81] }, none⟩,
    ⟨none, .store 22 (.tmp 3) (.tmp 17), none⟩]
@[reducible] def q61_2 : SCode := .region [⟨some 5, .alloc 82, none⟩]
@[reducible] def q61_3 : SCode := .region [⟨some 18, .load 22 (.tmp 3), none⟩,
    ⟨some 19, .call { callee := .builtin .len, args := #[.tmp 18], argTypes := #[22] }, none⟩,
    ⟨some 20, .move (.const (.int .i64 0)), none⟩]
@[reducible] def q61_4 : SCode := .region [⟨some 21, .binOp .lss 3 (.tmp 20) (.tmp 19) 3, none⟩]
@[reducible] def q61_5 : SCode := .region [⟨some 22, .indexAddr 22 (.tmp 18) (.tmp 20), none⟩,
    ⟨some 23, .load 3 (.tmp 22), none⟩,
    ⟨some 7, .assign (.tmp 23), none⟩]
@[reducible] def q61_6 : SCode := .region [⟨some 8, .assign (.const (.slice none 0 0)), none⟩]
@[reducible] def q61_7 : SCode := .region [⟨some 24, .load 3 (.tmp 2), none⟩,
    ⟨some 25, .move (.const (.int .i64 0)), none⟩]
@[reducible] def q61_8 : SCode := .region [⟨some 26, .binOp .lss 3 (.tmp 25) (.tmp 24) 3, none⟩]
@[reducible] def q61_9 : SCode := .region [⟨some 27, .move (.tmp 25), none⟩,
    ⟨some 9, .assign (.tmp 27), none⟩]
@[reducible] def q61_10 : SCode := .region [⟨some 28, .move (.tmp 8), none⟩,
    ⟨some 29, .move (.tmp 7), none⟩,
    ⟨some 30, .move (.tmp 9), none⟩,
    ⟨some 31, .binOp .shr 3 (.tmp 29) (.tmp 30) 3, none⟩,
    ⟨some 32, .binOp .and 3 (.tmp 31) (.const (.int .i64 1)) 3, none⟩,
    ⟨some 33, .buildSlice 22 1 #[(0, .tmp 32)], none⟩,
    ⟨some 34, .call { callee := .builtin .append, args := #[.tmp 28, .tmp 33], argTypes := #[22, 22] }, none⟩,
    ⟨some 8, .assign (.tmp 34), none⟩]
@[reducible] def q61_11 : SCode := .region [⟨some 35, .binOp .add 3 (.tmp 25) (.const (.int .i64 1)) 3, none⟩,
    ⟨some 25, .move (.tmp 35), none⟩]
def l61_0 : SCode := (.seq q61_8 (.seq (.cond (.tmp 26) .skip (.exit 2)) (.seq (.block 3 (.seq q61_9 q61_10)) q61_11)))
def q61_12 : SCode := .draw [⟨some 36, .load 82 (.tmp 5), none⟩,
    ⟨some 37, .move (.tmp 8), none⟩,
    ⟨some 38, .buildSlice 22 1 #[(0, .const (.int .i64 1))], none⟩,
    ⟨some 39, .call { callee := .builtin .append, args := #[.tmp 37, .tmp 38], argTypes := #[22, 22] }, none⟩,
    ⟨some 40, .buildSlice 82 1 #[(0, .tmp 39)], none⟩,
    ⟨some 41, .call { callee := .builtin .append, args := #[.tmp 36, .tmp 40], argTypes := #[82, 82] }, none⟩,
    ⟨none, .store 82 (.tmp 5) (.tmp 41), none⟩]
   [[], [], [], [1, 2], [3], [0, 4, 3], [5, 5, 0, 1, 2, 3, 4, 5]]
@[reducible] def q61_13 : SCode := .region [⟨some 42, .binOp .add 3 (.tmp 20) (.const (.int .i64 1)) 3, none⟩,
    ⟨some 20, .move (.tmp 42), none⟩]
def l61_1 : SCode := (.seq q61_4 (.seq (.cond (.tmp 21) .skip (.exit 0)) (.seq (.block 1 (.seq q61_5 (.seq q61_6 (.seq (.seq q61_7 (.block 2 (.loop l61_0))) q61_12)))) q61_13)))
@[reducible] def q61_14 : SCode := .region [⟨some 43, .load 3 (.tmp 2), none⟩,
    ⟨some 44, .move (.const (.int .i64 0)), none⟩]
@[reducible] def q61_15 : SCode := .region [⟨some 45, .binOp .lss 3 (.tmp 44) (.tmp 43) 3, none⟩]
@[reducible] def q61_16 : SCode := .region [⟨some 46, .move (.tmp 44), none⟩,
    ⟨some 10, .assign (.tmp 46), none⟩]
@[reducible] def q61_17 : SCode := .region [⟨some 47, .load 3 (.tmp 2), none⟩,
    ⟨some 48, .binOp .add 3 (.tmp 47) (.const (.int .i64 1)) 3, none⟩,
    ⟨some 49, .makeSlice 22 (.tmp 48) (.tmp 48), none⟩,
    ⟨some 11, .assign (.tmp 49), none⟩]
@[reducible] def q61_18 : SCode := .region [⟨some 50, .move (.tmp 11), none⟩,
    ⟨some 51, .move (.tmp 10), none⟩,
    ⟨some 52, .indexAddr 22 (.tmp 50) (.tmp 51), none⟩,
    ⟨none, .store 3 (.tmp 52) (.const (.int .i64 1)), none⟩]
@[reducible] def q61_19 : SCode := .region [⟨some 53, .load 82 (.tmp 5), none⟩,
    ⟨some 54, .move (.tmp 11), none⟩,
    ⟨some 55, .buildSlice 82 1 #[(0, .tmp 54)], none⟩,
    ⟨some 56, .call { callee := .builtin .append, args := #[.tmp 53, .tmp 55], argTypes := #[82, 82] }, none⟩,
    ⟨none, .store 82 (.tmp 5) (.tmp 56), none⟩]
@[reducible] def q61_20 : SCode := .region [⟨some 57, .binOp .add 3 (.tmp 44) (.const (.int .i64 1)) 3, none⟩,
    ⟨some 44, .move (.tmp 57), none⟩]
def l61_2 : SCode := (.seq q61_15 (.seq (.cond (.tmp 45) .skip (.exit 4)) (.seq (.block 5 (.seq q61_16 (.seq q61_17 (.seq q61_18 q61_19)))) q61_20)))
@[reducible] def q61_21 : SCode := .region [⟨some 58, .build 44 #[(0, .const (.int .i64 0)), (1, .const (.int .i64 1))], none⟩,
    ⟨some 12, .alloc 44, none⟩,
    ⟨none, .store 44 (.tmp 12) (.tmp 58), none⟩]
@[reducible] def q61_22 : SCode := .region [⟨some 13, .alloc 83, none⟩]
@[reducible] def q61_23 : SCode := .region [⟨some 59, .makeFunc (.func 85) #[] #[.tmp 2, .tmp 5, .tmp 13, .tmp 3, .tmp 12], none⟩,
    ⟨none, .store 83 (.tmp 13) (.tmp 59), none⟩]
@[reducible] def q61_24 : SCode := .region [⟨some 60, .load 83 (.tmp 13), none⟩,
    ⟨some 61, .call { callee := .value (.tmp 60), args := #[.const (.int .i64 0), .const (.slice none 0 0)], argTypes := #[3, 84] }, none⟩]
@[reducible] def q61_25 : SCode := .region [⟨some 62, .load 44 (.tmp 12), none⟩,
    ⟨none, .store 44 (.tmp 4) (.tmp 62), none⟩]
def s61 : SCode := (.seq q61_0 (.seq q61_1 (.seq q61_2 (.seq (.seq q61_3 (.block 0 (.loop l61_1))) (.seq (.seq q61_14 (.block 4 (.loop l61_2))) (.seq q61_21 (.seq q61_22 (.seq q61_23 (.seq q61_24 (.seq q61_25 .ret))))))))))
theorem s61_strip : Yh (Yj Tryd.f61) = s61 := by kernel_rfl
theorem s61_ok : Yw 63 (Yj Tryd.f61) = true := by kernel_rfl
/-! 66: planchet sure.less -/
@[reducible] def q66_0 : SCode := .region [⟨some 2, .box 44 (.tmp 0), none⟩,
    ⟨some 3, .box 44 (.tmp 1), none⟩,
    ⟨some 4, .assign (.const (.bool false)), none⟩]
@[reducible] def q66_1 : SCode := .region [⟨some 5, .fieldAddr 44 (.tmp 2) 0, none⟩,
    ⟨some 6, .load 3 (.tmp 5), none⟩,
    ⟨some 7, .fieldAddr 44 (.tmp 3) 1, none⟩,
    ⟨some 8, .load 3 (.tmp 7), none⟩,
    ⟨some 9, .binOp .mul 3 (.tmp 6) (.tmp 8) 3, none⟩,
    ⟨some 10, .fieldAddr 44 (.tmp 3) 0, none⟩,
    ⟨some 11, .load 3 (.tmp 10), none⟩,
    ⟨some 12, .fieldAddr 44 (.tmp 2) 1, none⟩,
    ⟨some 13, .load 3 (.tmp 12), none⟩,
    ⟨some 14, .binOp .mul 3 (.tmp 11) (.tmp 13) 3, none⟩,
    ⟨some 15, .binOp .lss 3 (.tmp 9) (.tmp 14) 3, none⟩,
    ⟨some 4, .assign (.tmp 15), none⟩]
def s66 : SCode := (.seq q66_0 (.seq q66_1 .ret))
theorem s66_strip : Yh (Yj Tryd.f66) = s66 := by kernel_rfl
theorem s66_ok : Yw 16 (Yj Tryd.f66) = true := by kernel_rfl
theorem s66_call [Tabs Tryd.prog] {args : List Value} {h : Yd} {Q : Value → Yd → Prop} (hsz : args.length ≤ 16) (hk : aw Tryd.prog 16 s66 (Zv Tryd.prog [.tmp 4] Q) (Zp 0 args) h) : ACall Tryd.prog 66 args h Q :=
  Va Tryd.func66 rfl (enters_of Tryd.func66 (by kernel_rfl) rfl) rfl rfl (by decide) s66_strip s66_ok hsz hk

/-! 81: slices.DeleteFunc[[]int,int] -/
@[reducible] def q81_0 : SCode := .region [⟨some 4, .assign (.const (.slice none 0 0)), none⟩]
@[reducible] def q81_1 : SCode := .region [⟨some 8, .move (.tmp 0), none⟩,
    ⟨some 9, .move (.tmp 1), none⟩,
    ⟨some 10, .call { callee := .value (.func 98), args := #[.tmp 8, .tmp 9], argTypes := #[22, 81] }, none⟩,
    ⟨some 5, .assign (.tmp 10), none⟩]
@[reducible] def q81_2 : SCode := .region [⟨some 11, .move (.tmp 5), none⟩,
    ⟨some 12, .binOp .eql 3 (.tmp 11) (.const (.int .i64 (-1))) 3, none⟩]
@[reducible] def q81_3 : SCode := .region [⟨some 13, .move (.tmp 0), none⟩,
    ⟨some 4, .assign (.tmp 13), none⟩]
@[reducible] def q81_4 : SCode := .region [⟨some 14, .move (.tmp 5), none⟩,
    ⟨some 15, .binOp .add 3 (.tmp 14) (.const (.int .i64 1)) 3, none⟩,
    ⟨some 6, .assign (.tmp 15), none⟩]
@[reducible] def q81_5 : SCode := .region [⟨some 16, .move (.tmp 6), none⟩,
    ⟨some 17, .move (.tmp 0), none⟩,
    ⟨some 18, .call { callee := .builtin .len, args := #[.tmp 17], argTypes := #[22] }, none⟩,
    ⟨some 19, .binOp .lss 3 (.tmp 16) (.tmp 18) 3, none⟩]
@[reducible] def q81_7 : SCode := .region [⟨some 22, .move (.tmp 0), none⟩,
    ⟨some 23, .move (.tmp 6), none⟩,
    ⟨some 24, .indexAddr 22 (.tmp 22) (.tmp 23), none⟩,
    ⟨some 25, .load 3 (.tmp 24), none⟩,
    ⟨some 7, .assign (.tmp 25), none⟩]
@[reducible] def q81_8 : SCode := .region [⟨some 26, .move (.tmp 1), none⟩,
    ⟨some 27, .move (.tmp 7), none⟩,
    ⟨some 28, .call { callee := .value (.tmp 26), args := #[.tmp 27], argTypes := #[3] }, none⟩,
    ⟨some 29, .unOp .not 4 (.tmp 28), none⟩]
@[reducible] def q81_9 : SCode := .region [⟨some 30, .move (.tmp 0), none⟩,
    ⟨some 31, .move (.tmp 5), none⟩,
    ⟨some 32, .move (.tmp 7), none⟩,
    ⟨some 33, .indexAddr 22 (.tmp 30) (.tmp 31), none⟩,
    ⟨none, .store 3 (.tmp 33) (.tmp 32), none⟩]
@[reducible] def q81_10 : SCode := .region [⟨some 34, .move (.tmp 5), none⟩,
    ⟨some 35, .binOp .add 3 (.tmp 34) (.const (.int .i64 1)) 3, none⟩,
    ⟨some 5, .assign (.tmp 35), none⟩]
@[reducible] def q81_6 : SCode := .region [⟨some 20, .move (.tmp 6), none⟩,
    ⟨some 21, .binOp .add 3 (.tmp 20) (.const (.int .i64 1)) 3, none⟩,
    ⟨some 6, .assign (.tmp 21), none⟩]
def l81_0 : SCode := (.seq (.seq q81_5 (.cond (.tmp 19) .skip (.exit 0))) (.seq (.block 1 (.seq q81_7 (.seq q81_8 (.cond (.tmp 29) (.seq q81_9 q81_10) .skip)))) q81_6))
@[reducible] def q81_11 : SCode := .region [⟨some 36, .move (.tmp 0), none⟩,
    ⟨some 37, .move (.tmp 5), none⟩,
    ⟨some 38, .slice 22 (.tmp 36) (some (.tmp 37)) none none, none⟩,
    ⟨none, .call { callee := .builtin .clear, args := #[.tmp 38], argTypes := #[22] }, none⟩]
@[reducible] def q81_12 : SCode := .region [⟨some 39, .move (.tmp 0), none⟩,
    ⟨some 40, .move (.tmp 5), none⟩,
    ⟨some 41, .slice 22 (.tmp 39) none (some (.tmp 40)) none, none⟩,
    ⟨some 4, .assign (.tmp 41), none⟩]
def s81 : SCode := (.seq q81_0 (.seq q81_1 (.seq (.seq q81_2 (.cond (.tmp 12) (.seq q81_3 .ret) .skip)) (.seq (.seq q81_4 (.block 0 (.loop l81_0))) (.seq q81_11 (.seq q81_12 .ret))))))
theorem s81_strip : Yh (Yj Tryd.f81) = s81 := by kernel_rfl
theorem s81_ok : Yw 42 (Yj Tryd.f81) = true := by kernel_rfl
/-! 82: planchet sure.packing$1 -/
@[reducible] def q82_0 : SCode := .region [⟨some 2, .box 3 (.tmp 0), none⟩,
    ⟨some 3, .assign (.const (.bool false)), none⟩]
@[reducible] def q82_1 : SCode := .region [⟨some 4, .load 22 (.tmp 1), none⟩,
    ⟨some 5, .makeFunc (.func 84) #[] #[.tmp 2], none⟩,
    ⟨some 6, .call { callee := .value (.func 83), args := #[.tmp 4, .tmp 5], argTypes := #[22, 81] }, none⟩,
    ⟨some 3, .assign (.tmp 6), none⟩]
def s82 : SCode := (.seq q82_0 (.seq q82_1 .ret))
theorem s82_strip : Yh (Yj Tryd.f82) = s82 := by kernel_rfl
theorem s82_ok : Yw 7 (Yj Tryd.f82) = true := by kernel_rfl
/-! 83: slices.ContainsFunc[[]int,int] -/
@[reducible] def q83_0 : SCode := .region [⟨some 4, .assign (.const (.bool false)), none⟩]
@[reducible] def q83_1 : SCode := .region [⟨some 5, .move (.tmp 0), none⟩,
    ⟨some 6, .move (.tmp 1), none⟩,
    ⟨some 7, .call { callee := .value (.func 98), args := #[.tmp 5, .tmp 6], argTypes := #[22, 81] }, none⟩,
    ⟨some 8, .binOp .geq 3 (.tmp 7) (.const (.int .i64 0)) 3, none⟩,
    ⟨some 4, .assign (.tmp 8), none⟩]
def s83 : SCode := (.seq q83_0 (.seq q83_1 .ret))
theorem s83_strip : Yh (Yj Tryd.f83) = s83 := by kernel_rfl
theorem s83_ok : Yw 9 (Yj Tryd.f83) = true := by kernel_rfl
/-! 84: planchet sure.packing$1$1 -/
@[reducible] def q84_0 : SCode := .region [⟨some 3, .assign (.const (.bool false)), none⟩]
@[reducible] def q84_1 : SCode := .region [⟨some 4, .load 3 (.tmp 1), none⟩,
    ⟨some 5, .move (.tmp 0), none⟩,
    ⟨some 6, .binOp .neq 3 (.tmp 4) (.tmp 5) 3, none⟩,
    ⟨some 7, .move (.tmp 6), none⟩,
    ⟨some 8, .load 3 (.tmp 1), some (7, true)⟩,
    ⟨some 9, .move (.tmp 0), some (7, true)⟩,
    ⟨some 10, .binOp .andNot 3 (.tmp 8) (.tmp 9) 3, some (7, true)⟩,
    ⟨some 11, .binOp .eql 3 (.tmp 10) (.const (.int .i64 0)) 3, some (7, true)⟩,
    ⟨some 12, .pick (.tmp 7) (.tmp 11) (.const (.bool false)), none⟩,
    ⟨some 3, .assign (.tmp 12), none⟩]
def s84 : SCode := (.seq q84_0 (.seq q84_1 .ret))
theorem s84_strip : Yh (Yj Tryd.f84) = s84 := by kernel_rfl
theorem s84_ok : Yw 13 (Yj Tryd.f84) = true := by kernel_rfl
theorem s84_call [Tabs Tryd.prog] {args : List Value} {h : Yd} {Q : Value → Yd → Prop} (hsz : args.length ≤ 13) (hk : aw Tryd.prog 13 s84 (Zv Tryd.prog [.tmp 3] Q) (Zp 0 args) h) : ACall Tryd.prog 84 args h Q :=
  Va Tryd.func84 rfl (enters_of Tryd.func84 (by kernel_rfl) rfl) rfl rfl (by decide) s84_strip s84_ok hsz hk

/-! 85: planchet sure.packing$2 -/
@[reducible] def q85_0 : SCode := .region [⟨some 22, .move (.tmp 1), none⟩,
    ⟨some 23, .call { callee := .builtin .len, args := #[.tmp 22], argTypes := #[84] }, none⟩,
    ⟨some 24, .load 3 (.tmp 2), none⟩,
    ⟨some 25, .binOp .lss 3 (.tmp 23) (.tmp 24) 3, none⟩]
@[reducible] def q85_1 : SCode := .region [⟨some 26, .move (.tmp 0), none⟩,
    ⟨some 9, .assign (.tmp 26), none⟩]
@[reducible] def q85_2 : SCode := .region [⟨some 27, .move (.tmp 9), none⟩,
    ⟨some 28, .load 82 (.tmp 3), none⟩,
    ⟨some 29, .call { callee := .builtin .len, args := #[.tmp 28], argTypes := #[82] }, none⟩,
    ⟨some 30, .binOp .lss 3 (.tmp 27) (.tmp 29) 3, none⟩]
def q85_4 : SCode := .draw [⟨some 33, .load 83 (.tmp 4), none⟩,
    ⟨some 34, .move (.tmp 9), none⟩,
    ⟨some 35, .binOp .add 3 (.tmp 34) (.const (.int .i64 1)) 3, none⟩,
    ⟨some 36, .move (.tmp 1), none⟩,
    ⟨some 37, .move (.tmp 1), none⟩,
    ⟨some 38, .call { callee := .builtin .len, args := #[.tmp 37], argTypes := #[84] }, none⟩,
    ⟨some 39, .move (.tmp 1), none⟩,
    ⟨some 40, .call { callee := .builtin .len, args := #[.tmp 39], argTypes := #[84] }, none⟩,
    ⟨some 41, .slice 84 (.tmp 36) none (some (.tmp 38)) (some (.tmp 40)), none⟩,
    ⟨some 42, .load 82 (.tmp 3), none⟩,
    ⟨some 43, .move (.tmp 9), none⟩,
    ⟨some 44, .indexAddr 82 (.tmp 42) (.tmp 43), none⟩,
    ⟨some 45, .load 22 (.tmp 44), none⟩,
    ⟨some 46, .buildSlice 84 1 #[(0, .tmp 45)], none⟩,
    ⟨some 47, .call { callee := .builtin .append, args := #[.tmp 41, .tmp 46], argTypes := #[84, 84] }, none⟩,
    ⟨some 48, .call { callee := .value (.tmp 33), args := #[.tmp 35, .tmp 47], argTypes := #[3, 84] }, none⟩]
   [[], [], [1], [], [], [4], [], [6], [3, 5, 7], [], [], [9, 10], [11], [12], [8, 13], [0, 2, 14, 14]]
@[reducible] def q85_3 : SCode := .region [⟨some 31, .move (.tmp 9), none⟩,
    ⟨some 32, .binOp .add 3 (.tmp 31) (.const (.int .i64 1)) 3, none⟩,
    ⟨some 9, .assign (.tmp 32), none⟩]
def l85_0 : SCode := (.seq (.seq q85_2 (.cond (.tmp 30) .skip (.exit 0))) (.seq (.block 1 q85_4) q85_3))
@[reducible] def q85_5 : SCode := .region [⟨some 50, .move (.tmp 1), none⟩,
    ⟨some 51, .call { callee := .value (.func 86), args := #[.tmp 50], argTypes := #[84] }, none⟩,
    ⟨some 49, .move (.tmp 51), none⟩,
    ⟨some 52, .extract (.tmp 49) 0, none⟩,
    ⟨some 53, .extract (.tmp 49) 1, none⟩,
    ⟨some 54, .extract (.tmp 49) 2, none⟩,
    ⟨some 10, .assign (.tmp 52), none⟩,
    ⟨some 11, .assign (.tmp 53), none⟩,
    ⟨some 12, .assign (.tmp 54), none⟩]
@[reducible] def q85_6 : SCode := .region [⟨some 55, .move (.tmp 12), none⟩,
    ⟨some 56, .unOp .not 4 (.tmp 55), none⟩,
    ⟨some 57, .move (.tmp 56), none⟩,
    ⟨some 58, .move (.tmp 10), some (57, false)⟩,
    ⟨some 59, .call { callee := .value (.func 87), args := #[.tmp 58], argTypes := #[22] }, some (57, false)⟩,
    ⟨some 60, .binOp .lss 3 (.tmp 59) (.const (.int .i64 0)) 3, some (57, false)⟩,
    ⟨some 61, .pick (.tmp 57) (.const (.bool true)) (.tmp 60), none⟩]
@[reducible] def q85_7 : SCode := .region [⟨some 13, .assign (.const (.int .i64 0)), none⟩]
@[reducible] def q85_8 : SCode := .region [⟨some 62, .move (.tmp 10), none⟩,
    ⟨some 63, .call { callee := .builtin .len, args := #[.tmp 62], argTypes := #[22] }, none⟩,
    ⟨some 64, .move (.const (.int .i64 0)), none⟩]
@[reducible] def q85_9 : SCode := .region [⟨some 65, .binOp .lss 3 (.tmp 64) (.tmp 63) 3, none⟩]
@[reducible] def q85_10 : SCode := .region [⟨some 66, .indexAddr 22 (.tmp 62) (.tmp 64), none⟩,
    ⟨some 67, .load 3 (.tmp 66), none⟩,
    ⟨some 15, .assign (.tmp 67), none⟩]
@[reducible] def q85_11 : SCode := .region [⟨some 68, .move (.tmp 13), none⟩,
    ⟨some 69, .move (.tmp 15), none⟩,
    ⟨some 70, .binOp .add 3 (.tmp 68) (.tmp 69) 3, none⟩,
    ⟨some 13, .assign (.tmp 70), none⟩]
@[reducible] def q85_12 : SCode := .region [⟨some 71, .binOp .add 3 (.tmp 64) (.const (.int .i64 1)) 3, none⟩,
    ⟨some 64, .move (.tmp 71), none⟩]
def l85_1 : SCode := (.seq q85_9 (.seq (.cond (.tmp 65) .skip (.exit 2)) (.seq (.block 3 (.seq q85_10 q85_11)) q85_12)))
@[reducible] def q85_13 : SCode := .region [⟨some 72, .load 22 (.tmp 5), none⟩,
    ⟨some 73, .call { callee := .builtin .len, args := #[.tmp 72], argTypes := #[22] }, none⟩,
    ⟨some 74, .move (.const (.int .i64 0)), none⟩]
@[reducible] def q85_14 : SCode := .region [⟨some 75, .binOp .lss 3 (.tmp 74) (.tmp 73) 3, none⟩]
@[reducible] def q85_15 : SCode := .region [⟨some 76, .indexAddr 22 (.tmp 72) (.tmp 74), none⟩,
    ⟨some 77, .load 3 (.tmp 76), none⟩,
    ⟨some 17, .assign (.tmp 77), none⟩]
@[reducible] def q85_16 : SCode := .region [⟨some 18, .assign (.const (.int .i64 0)), none⟩]
@[reducible] def q85_17 : SCode := .region [⟨some 78, .move (.tmp 10), none⟩,
    ⟨some 79, .call { callee := .builtin .len, args := #[.tmp 78], argTypes := #[22] }, none⟩,
    ⟨some 80, .move (.const (.int .i64 0)), none⟩]
@[reducible] def q85_18 : SCode := .region [⟨some 81, .binOp .lss 3 (.tmp 80) (.tmp 79) 3, none⟩]
@[reducible] def q85_19 : SCode := .region [⟨some 82, .move (.tmp 80), none⟩,
    ⟨some 83, .indexAddr 22 (.tmp 78) (.tmp 80), none⟩,
    ⟨some 84, .load 3 (.tmp 83), none⟩,
    ⟨some 19, .assign (.tmp 82), none⟩,
    ⟨some 20, .assign (.tmp 84), none⟩]
@[reducible] def q85_20 : SCode := .region [⟨some 85, .move (.tmp 18), none⟩,
    ⟨some 86, .move (.tmp 17), none⟩,
    ⟨some 87, .move (.tmp 19), none⟩,
    ⟨some 88, .binOp .shr 3 (.tmp 86) (.tmp 87) 3, none⟩,
    ⟨some 89, .binOp .and 3 (.tmp 88) (.const (.int .i64 1)) 3, none⟩,
    ⟨some 90, .move (.tmp 20), none⟩,
    ⟨some 91, .binOp .mul 3 (.tmp 89) (.tmp 90) 3, none⟩,
    ⟨some 92, .binOp .add 3 (.tmp 85) (.tmp 91) 3, none⟩,
    ⟨some 18, .assign (.tmp 92), none⟩]
@[reducible] def q85_21 : SCode := .region [⟨some 93, .binOp .add 3 (.tmp 80) (.const (.int .i64 1)) 3, none⟩,
    ⟨some 80, .move (.tmp 93), none⟩]
def l85_2 : SCode := (.seq q85_18 (.seq (.cond (.tmp 81) .skip (.exit 6)) (.seq (.block 7 (.seq q85_19 q85_20)) q85_21)))
@[reducible] def q85_22 : SCode := .region [⟨some 94, .move (.tmp 18), none⟩,
    ⟨some 95, .move (.tmp 11), none⟩,
    ⟨some 96, .binOp .gtr 3 (.tmp 94) (.tmp 95) 3, none⟩]
@[reducible] def q85_23 : SCode := .region [⟨some 97, .binOp .add 3 (.tmp 74) (.const (.int .i64 1)) 3, none⟩,
    ⟨some 74, .move (.tmp 97), none⟩]
def l85_3 : SCode := (.seq q85_14 (.seq (.cond (.tmp 75) .skip (.exit 4)) (.seq (.block 5 (.seq q85_15 (.seq q85_16 (.seq (.seq q85_17 (.block 6 (.loop l85_2))) (.seq q85_22 (.cond (.tmp 96) .ret .skip)))))) q85_23)))
@[reducible] def q85_24 : SCode := .region [⟨some 98, .move (.tmp 13), none⟩,
    ⟨some 99, .move (.tmp 11), none⟩,
    ⟨some 100, .call { callee := .value (.func 88), args := #[.tmp 98, .tmp 99], argTypes := #[3, 3] }, none⟩,
    ⟨some 21, .alloc 44, none⟩,
    ⟨none, .store 44 (.tmp 21) (.tmp 100), none⟩]
@[reducible] def q85_25 : SCode := .region [⟨some 101, .load 44 (.tmp 6), none⟩,
    ⟨some 102, .load 44 (.tmp 21), none⟩,
    ⟨some 103, .call { callee := .value (.func 66), args := #[.tmp 101, .tmp 102], argTypes := #[44, 44] }, none⟩]
@[reducible] def q85_26 : SCode := .region [⟨some 104, .load 44 (.tmp 21), none⟩,
    ⟨none, .store 44 (.tmp 6) (.tmp 104), none⟩]
def s85 : SCode := (.seq (.seq q85_0 (.cond (.tmp 25) (.seq (.seq q85_1 (.block 0 (.loop l85_0))) .ret) .skip)) (.seq q85_5 (.seq (.seq q85_6 (.cond (.tmp 61) .ret .skip)) (.seq q85_7 (.seq (.seq q85_8 (.block 2 (.loop l85_1))) (.seq (.seq q85_13 (.block 4 (.loop l85_3))) (.seq q85_24 (.seq q85_25 (.cond (.tmp 103) q85_26 .skip)))))))))
theorem s85_strip : Yh (Yj Tryd.f85) = s85 := by kernel_rfl
theorem s85_ok : Yw 105 (Yj Tryd.f85) = true := by kernel_rfl
/-! 86: (planchet sure.system).solve -/
@[reducible] def q86_0 : SCode := .region [⟨some 2, .assign (.const (.slice none 0 0)), none⟩,
    ⟨some 3, .assign (.const (.int .i64 0)), none⟩,
    ⟨some 4, .assign (.const (.bool false)), none⟩]
@[reducible] def q86_1 : SCode := .region [⟨some 11, .move (.tmp 0), none⟩,
    ⟨some 12, .call { callee := .builtin .len, args := #[.tmp 11], argTypes := #[84] }, none⟩,
    ⟨some 5, .assign (.tmp 12), none⟩]
@[reducible] def q86_2 : SCode := .region [⟨some 13, .move (.tmp 0), none⟩,
    ⟨some 14, .move (.tmp 5), none⟩,
    ⟨some 15, .call { callee := .value (.func 99), args := #[.tmp 13, .tmp 14], argTypes := #[84, 3] }, none⟩,
    ⟨some 3, .assign (.tmp 15), none⟩]
@[reducible] def q86_3 : SCode := .region [⟨some 16, .move (.tmp 3), none⟩,
    ⟨some 17, .binOp .eql 3 (.tmp 16) (.const (.int .i64 0)) 3, none⟩]
@[reducible] def q86_4 : SCode := .region [⟨some 2, .assign (.const (.slice none 0 0)), none⟩,
    ⟨some 3, .assign (.const (.int .i64 0)), none⟩,
    ⟨some 4, .assign (.const (.bool false)), none⟩]
@[reducible] def q86_5 : SCode := .region [⟨some 18, .move (.tmp 5), none⟩,
    ⟨some 19, .move (.const (.int .i64 0)), none⟩]
@[reducible] def q86_6 : SCode := .region [⟨some 20, .binOp .lss 3 (.tmp 19) (.tmp 18) 3, none⟩]
@[reducible] def q86_7 : SCode := .region [⟨some 21, .move (.tmp 19), none⟩,
    ⟨some 6, .assign (.tmp 21), none⟩]
@[reducible] def q86_8 : SCode := .region [⟨some 7, .assign (.const (.slice none 0 0)), none⟩]
@[reducible] def q86_9 : SCode := .region [⟨some 22, .move (.tmp 0), none⟩,
    ⟨some 23, .call { callee := .builtin .len, args := #[.tmp 22], argTypes := #[84] }, none⟩,
    ⟨some 24, .move (.const (.int .i64 0)), none⟩]
@[reducible] def q86_10 : SCode := .region [⟨some 25, .binOp .lss 3 (.tmp 24) (.tmp 23) 3, none⟩]
@[reducible] def q86_11 : SCode := .region [⟨some 26, .indexAddr 84 (.tmp 22) (.tmp 24), none⟩,
    ⟨some 27, .load 22 (.tmp 26), none⟩,
    ⟨some 9, .assign (.tmp 27), none⟩]
@[reducible] def q86_12 : SCode := .region [⟨some 28, .move (.tmp 9), none⟩,
    ⟨some 29, .call { callee := .value (.func 26), args := #[.tmp 28], argTypes := #[22] }, none⟩,
    ⟨some 9, .assign (.tmp 29), none⟩]
@[reducible] def q86_13 : SCode := .region [⟨some 30, .move (.tmp 9), none⟩,
    ⟨some 31, .move (.tmp 6), none⟩,
    ⟨some 32, .move (.tmp 9), none⟩,
    ⟨some 33, .move (.tmp 5), none⟩,
    ⟨some 34, .indexAddr 22 (.tmp 32) (.tmp 33), none⟩,
    ⟨some 35, .load 3 (.tmp 34), none⟩,
    ⟨some 36, .indexAddr 22 (.tmp 30) (.tmp 31), none⟩,
    ⟨none, .store 3 (.tmp 36) (.tmp 35), none⟩]
@[reducible] def q86_14 : SCode := .region [⟨some 37, .move (.tmp 7), none⟩,
    ⟨some 38, .move (.tmp 9), none⟩,
    ⟨some 39, .buildSlice 84 1 #[(0, .tmp 38)], none⟩,
    ⟨some 40, .call { callee := .builtin .append, args := #[.tmp 37, .tmp 39], argTypes := #[84, 84] }, none⟩,
    ⟨some 7, .assign (.tmp 40), none⟩]
@[reducible] def q86_15 : SCode := .region [⟨some 41, .binOp .add 3 (.tmp 24) (.const (.int .i64 1)) 3, none⟩,
    ⟨some 24, .move (.tmp 41), none⟩]
def l86_0 : SCode := (.seq q86_10 (.seq (.cond (.tmp 25) .skip (.exit 2)) (.seq (.block 3 (.seq q86_11 (.seq q86_12 (.seq q86_13 q86_14)))) q86_15)))
@[reducible] def q86_16 : SCode := .region [⟨some 42, .move (.tmp 2), none⟩,
    ⟨some 43, .move (.tmp 7), none⟩,
    ⟨some 44, .move (.tmp 5), none⟩,
    ⟨some 45, .call { callee := .value (.func 99), args := #[.tmp 43, .tmp 44], argTypes := #[84, 3] }, none⟩,
    ⟨some 46, .buildSlice 22 1 #[(0, .tmp 45)], none⟩,
    ⟨some 47, .call { callee := .builtin .append, args := #[.tmp 42, .tmp 46], argTypes := #[22, 22] }, none⟩,
    ⟨some 2, .assign (.tmp 47), none⟩]
@[reducible] def q86_17 : SCode := .region [⟨some 48, .binOp .add 3 (.tmp 19) (.const (.int .i64 1)) 3, none⟩,
    ⟨some 19, .move (.tmp 48), none⟩]
def l86_1 : SCode := (.seq q86_6 (.seq (.cond (.tmp 20) .skip (.exit 0)) (.seq (.block 1 (.seq q86_7 (.seq q86_8 (.seq (.seq q86_9 (.block 2 (.loop l86_0))) q86_16)))) q86_17)))
@[reducible] def q86_18 : SCode := .region [⟨some 49, .move (.tmp 3), none⟩,
    ⟨some 50, .binOp .lss 3 (.tmp 49) (.const (.int .i64 0)) 3, none⟩]
@[reducible] def q86_19 : SCode := .region [⟨some 51, .move (.tmp 3), none⟩,
    ⟨some 52, .unOp .neg 3 (.tmp 51), none⟩,
    ⟨some 3, .assign (.tmp 52), none⟩]
@[reducible] def q86_20 : SCode := .region [⟨some 53, .move (.tmp 2), none⟩,
    ⟨some 54, .call { callee := .builtin .len, args := #[.tmp 53], argTypes := #[22] }, none⟩,
    ⟨some 55, .move (.const (.int .i64 0)), none⟩]
@[reducible] def q86_21 : SCode := .region [⟨some 56, .binOp .lss 3 (.tmp 55) (.tmp 54) 3, none⟩]
@[reducible] def q86_22 : SCode := .region [⟨some 57, .move (.tmp 55), none⟩,
    ⟨some 10, .assign (.tmp 57), none⟩]
@[reducible] def q86_23 : SCode := .region [⟨some 58, .move (.tmp 2), none⟩,
    ⟨some 59, .move (.tmp 10), none⟩,
    ⟨some 60, .move (.tmp 2), none⟩,
    ⟨some 61, .move (.tmp 10), none⟩,
    ⟨some 62, .indexAddr 22 (.tmp 60) (.tmp 61), none⟩,
    ⟨some 63, .load 3 (.tmp 62), none⟩,
    ⟨some 64, .unOp .neg 3 (.tmp 63), none⟩,
    ⟨some 65, .indexAddr 22 (.tmp 58) (.tmp 59), none⟩,
    ⟨none, .store 3 (.tmp 65) (.tmp 64), none⟩]
@[reducible] def q86_24 : SCode := .region [⟨some 66, .binOp .add 3 (.tmp 55) (.const (.int .i64 1)) 3, none⟩,
    ⟨some 55, .move (.tmp 66), none⟩]
def l86_2 : SCode := (.seq q86_21 (.seq (.cond (.tmp 56) .skip (.exit 4)) (.seq (.block 5 (.seq q86_22 q86_23)) q86_24)))
@[reducible] def q86_25 : SCode := .region [⟨some 67, .move (.tmp 2), none⟩,
    ⟨some 68, .move (.tmp 3), none⟩,
    ⟨some 2, .assign (.tmp 67), none⟩,
    ⟨some 3, .assign (.tmp 68), none⟩,
    ⟨some 4, .assign (.const (.bool true)), none⟩]
def s86 : SCode := (.seq q86_0 (.seq q86_1 (.seq q86_2 (.seq (.seq q86_3 (.cond (.tmp 17) (.seq q86_4 .ret) .skip)) (.seq (.seq q86_5 (.block 0 (.loop l86_1))) (.seq (.seq q86_18 (.cond (.tmp 50) (.seq q86_19 (.seq q86_20 (.block 4 (.loop l86_2)))) .skip)) (.seq q86_25 .ret)))))))
theorem s86_strip : Yh (Yj Tryd.f86) = s86 := by kernel_rfl
theorem s86_ok : Yw 69 (Yj Tryd.f86) = true := by kernel_rfl
/-! 87: slices.Min[[]int,int] -/
@[reducible] def q87_0 : SCode := .region [⟨some 2, .assign (.const (.int .i64 0)), none⟩]
@[reducible] def q87_1 : SCode := .region [⟨some 5, .move (.tmp 0), none⟩,
    ⟨some 6, .call { callee := .builtin .len, args := #[.tmp 5], argTypes := #[22] }, none⟩,
    ⟨some 7, .binOp .lss 3 (.tmp 6) (.const (.int .i64 1)) 3, none⟩]
@[reducible] def q87_2 : SCode := .region [⟨some 8, .makeInterface 9 (.const (.string { data := #[115, 108, 105, 99, 101, 115, 46, 77, 105, 110, 58, 32, 101, 109, 112, 116, 121, 32, 108, 105, 115, 116] })), none⟩,
    ⟨none, .panic (.tmp 8), none⟩]
@[reducible] def q87_3 : SCode := .region [⟨some 9, .move (.tmp 0), none⟩,
    ⟨some 10, .indexAddr 22 (.tmp 9) (.const (.int .i64 0)), none⟩,
    ⟨some 11, .load 3 (.tmp 10), none⟩,
    ⟨some 3, .assign (.tmp 11), none⟩]
@[reducible] def q87_4 : SCode := .region [⟨some 4, .assign (.const (.int .i64 1)), none⟩]
@[reducible] def q87_5 : SCode := .region [⟨some 12, .move (.tmp 4), none⟩,
    ⟨some 13, .move (.tmp 0), none⟩,
    ⟨some 14, .call { callee := .builtin .len, args := #[.tmp 13], argTypes := #[22] }, none⟩,
    ⟨some 15, .binOp .lss 3 (.tmp 12) (.tmp 14) 3, none⟩]
@[reducible] def q87_7 : SCode := .region [⟨some 18, .move (.tmp 3), none⟩,
    ⟨some 19, .move (.tmp 0), none⟩,
    ⟨some 20, .move (.tmp 4), none⟩,
    ⟨some 21, .indexAddr 22 (.tmp 19) (.tmp 20), none⟩,
    ⟨some 22, .load 3 (.tmp 21), none⟩,
    ⟨some 23, .call { callee := .builtin .min, args := #[.tmp 18, .tmp 22], argTypes := #[3, 3] }, none⟩,
    ⟨some 3, .assign (.tmp 23), none⟩]
@[reducible] def q87_6 : SCode := .region [⟨some 16, .move (.tmp 4), none⟩,
    ⟨some 17, .binOp .add 3 (.tmp 16) (.const (.int .i64 1)) 3, none⟩,
    ⟨some 4, .assign (.tmp 17), none⟩]
def l87_0 : SCode := (.seq (.seq q87_5 (.cond (.tmp 15) .skip (.exit 0))) (.seq (.block 1 q87_7) q87_6))
@[reducible] def q87_8 : SCode := .region [⟨some 24, .move (.tmp 3), none⟩,
    ⟨some 2, .assign (.tmp 24), none⟩]
def s87 : SCode := (.seq q87_0 (.seq (.seq q87_1 (.cond (.tmp 7) q87_2 .skip)) (.seq q87_3 (.seq (.seq q87_4 (.block 0 (.loop l87_0))) (.seq q87_8 .ret)))))
theorem s87_strip : Yh (Yj Tryd.f87) = s87 := by kernel_rfl
theorem s87_ok : Yw 25 (Yj Tryd.f87) = true := by kernel_rfl
/-! 88: planchet sure.frac -/
@[reducible] def q88_0 : SCode := .region [⟨some 4, .alloc 44, none⟩]
@[reducible] def q88_1 : SCode := .region [⟨some 6, .move (.tmp 1), none⟩,
    ⟨some 7, .binOp .lss 3 (.tmp 6) (.const (.int .i64 0)) 3, none⟩]
@[reducible] def q88_2 : SCode := .region [⟨some 8, .move (.tmp 0), none⟩,
    ⟨some 9, .unOp .neg 3 (.tmp 8), none⟩,
    ⟨some 10, .move (.tmp 1), none⟩,
    ⟨some 11, .unOp .neg 3 (.tmp 10), none⟩,
    ⟨some 0, .assign (.tmp 9), none⟩,
    ⟨some 1, .assign (.tmp 11), none⟩]
@[reducible] def q88_3 : SCode := .region [⟨some 12, .move (.tmp 0), none⟩,
    ⟨some 13, .move (.tmp 1), none⟩,
    ⟨some 14, .call { callee := .value (.func 90), args := #[.tmp 12, .tmp 13], argTypes := #[3, 3] }, none⟩,
    ⟨some 5, .assign (.tmp 14), none⟩]
def q88_4 : SCode := .draw [⟨some 15, .move (.tmp 0), none⟩,
    ⟨some 16, .move (.tmp 5), none⟩,
    ⟨some 17, .binOp .quo 3 (.tmp 15) (.tmp 16) 3, none⟩,
    ⟨some 18, .move (.tmp 1), none⟩,
    ⟨some 19, .move (.tmp 5), none⟩,
    ⟨some 20, .binOp .quo 3 (.tmp 18) (.tmp 19) 3, none⟩,
    ⟨some 21, .build 44 #[(0, .tmp 17), (1, .tmp 20)], none⟩,
    ⟨none, .store 44 (.tmp 4) (.tmp 21), none⟩]
   [[], [], [0, 1], [], [], [3, 4], [2, 5], [6, 0, 1, 2, 3, 4, 5, 6]]
def s88 : SCode := (.seq q88_0 (.seq (.seq q88_1 (.cond (.tmp 7) q88_2 .skip)) (.seq q88_3 (.seq q88_4 .ret))))
theorem s88_strip : Yh (Yj Tryd.f88) = s88 := by kernel_rfl
theorem s88_ok : Yw 22 (Yj Tryd.f88) = true := by kernel_rfl
/-! 90: planchet sure.gcd -/
@[reducible] def q90_0 : SCode := .region [⟨some 4, .assign (.const (.int .i64 0)), none⟩]
@[reducible] def q90_1 : SCode := .region [⟨some 5, .move (.tmp 1), none⟩,
    ⟨some 6, .binOp .neq 3 (.tmp 5) (.const (.int .i64 0)) 3, none⟩]
def q90_2 : SCode := .draw [⟨some 7, .move (.tmp 1), none⟩,
    ⟨some 8, .move (.tmp 0), none⟩,
    ⟨some 9, .move (.tmp 1), none⟩,
    ⟨some 10, .binOp .rem 3 (.tmp 8) (.tmp 9) 3, none⟩,
    ⟨some 0, .assign (.tmp 7), none⟩,
    ⟨some 1, .assign (.tmp 10), none⟩]
   [[], [], [], [1, 2], [0, 0, 1], [3, 4, 0, 1, 2, 3, 4]]
def l90_0 : SCode := (.seq (.seq q90_1 (.cond (.tmp 6) .skip (.exit 0))) (.block 1 q90_2))
@[reducible] def q90_3 : SCode := .region [⟨some 11, .move (.tmp 0), none⟩,
    ⟨some 12, .move (.tmp 0), none⟩,
    ⟨some 13, .unOp .neg 3 (.tmp 12), none⟩,
    ⟨some 14, .call { callee := .builtin .max, args := #[.tmp 11, .tmp 13], argTypes := #[3, 3] }, none⟩,
    ⟨some 4, .assign (.tmp 14), none⟩]
def s90 : SCode := (.seq q90_0 (.seq (.block 0 (.loop l90_0)) (.seq q90_3 .ret)))
theorem s90_strip : Yh (Yj Tryd.f90) = s90 := by kernel_rfl
theorem s90_ok : Yw 15 (Yj Tryd.f90) = true := by kernel_rfl
theorem s90_call [Tabs Tryd.prog] {args : List Value} {h : Yd} {Q : Value → Yd → Prop} (hsz : args.length ≤ 15) (hk : aw Tryd.prog 15 s90 (Zv Tryd.prog [.tmp 4] Q) (Zp 0 args) h) : ACall Tryd.prog 90 args h Q :=
  Va Tryd.func90 rfl (enters_of Tryd.func90 (by kernel_rfl) rfl) rfl rfl (by decide) s90_strip s90_ok hsz hk

/-! 98: slices.IndexFunc[[]int,int] -/
@[reducible] def q98_0 : SCode := .region [⟨some 4, .assign (.const (.int .i64 0)), none⟩]
@[reducible] def q98_1 : SCode := .region [⟨some 6, .move (.tmp 0), none⟩,
    ⟨some 7, .call { callee := .builtin .len, args := #[.tmp 6], argTypes := #[22] }, none⟩,
    ⟨some 8, .move (.const (.int .i64 0)), none⟩]
@[reducible] def q98_2 : SCode := .region [⟨some 9, .binOp .lss 3 (.tmp 8) (.tmp 7) 3, none⟩]
@[reducible] def q98_3 : SCode := .region [⟨some 10, .move (.tmp 8), none⟩,
    ⟨some 5, .assign (.tmp 10), none⟩]
@[reducible] def q98_4 : SCode := .region [⟨some 11, .move (.tmp 1), none⟩,
    ⟨some 12, .move (.tmp 0), none⟩,
    ⟨some 13, .move (.tmp 5), none⟩,
    ⟨some 14, .indexAddr 22 (.tmp 12) (.tmp 13), none⟩,
    ⟨some 15, .load 3 (.tmp 14), none⟩,
    ⟨some 16, .call { callee := .value (.tmp 11), args := #[.tmp 15], argTypes := #[3] }, none⟩]
@[reducible] def q98_5 : SCode := .region [⟨some 17, .move (.tmp 5), none⟩,
    ⟨some 4, .assign (.tmp 17), none⟩]
@[reducible] def q98_6 : SCode := .region [⟨some 18, .binOp .add 3 (.tmp 8) (.const (.int .i64 1)) 3, none⟩,
    ⟨some 8, .move (.tmp 18), none⟩]
def l98_0 : SCode := (.seq q98_2 (.seq (.cond (.tmp 9) .skip (.exit 0)) (.seq (.block 1 (.seq q98_3 (.seq q98_4 (.cond (.tmp 16) (.seq q98_5 .ret) .skip)))) q98_6)))
@[reducible] def q98_7 : SCode := .region [⟨some 4, .assign (.const (.int .i64 (-1))), none⟩]
def s98 : SCode := (.seq q98_0 (.seq (.seq q98_1 (.block 0 (.loop l98_0))) (.seq q98_7 .ret)))
theorem s98_strip : Yh (Yj Tryd.f98) = s98 := by kernel_rfl
theorem s98_ok : Yw 19 (Yj Tryd.f98) = true := by kernel_rfl
/-! 99: (planchet sure.system).det -/
@[reducible] def q99_0 : SCode := .region [⟨some 4, .assign (.const (.int .i64 0)), none⟩]
@[reducible] def q99_1 : SCode := .region [⟨some 10, .move (.tmp 1), none⟩,
    ⟨some 11, .binOp .eql 3 (.tmp 10) (.const (.int .i64 0)) 3, none⟩]
@[reducible] def q99_2 : SCode := .region [⟨some 4, .assign (.const (.int .i64 1)), none⟩]
@[reducible] def q99_3 : SCode := .region [⟨some 5, .assign (.const (.int .i64 0)), none⟩,
    ⟨some 6, .assign (.const (.int .i64 1)), none⟩]
@[reducible] def q99_4 : SCode := .region [⟨some 12, .move (.tmp 0), none⟩,
    ⟨some 13, .call { callee := .builtin .len, args := #[.tmp 12], argTypes := #[84] }, none⟩,
    ⟨some 14, .move (.const (.int .i64 0)), none⟩]
@[reducible] def q99_5 : SCode := .region [⟨some 15, .binOp .lss 3 (.tmp 14) (.tmp 13) 3, none⟩]
@[reducible] def q99_6 : SCode := .region [⟨some 16, .move (.tmp 14), none⟩,
    ⟨some 17, .indexAddr 84 (.tmp 12) (.tmp 14), none⟩,
    ⟨some 18, .load 22 (.tmp 17), none⟩,
    ⟨some 7, .assign (.tmp 16), none⟩,
    ⟨some 8, .assign (.tmp 18), none⟩]
@[reducible] def q99_7 : SCode := .region [⟨some 19, .move (.tmp 8), none⟩,
    ⟨some 20, .move (.tmp 1), none⟩,
    ⟨some 21, .binOp .sub 3 (.tmp 20) (.const (.int .i64 1)) 3, none⟩,
    ⟨some 22, .indexAddr 22 (.tmp 19) (.tmp 21), none⟩,
    ⟨some 23, .load 3 (.tmp 22), none⟩,
    ⟨some 24, .binOp .neq 3 (.tmp 23) (.const (.int .i64 0)) 3, none⟩]
@[reducible] def q99_8 : SCode := .region [⟨some 9, .assign (.const (.slice none 0 0)), none⟩]
def q99_9 : SCode := .draw [⟨some 25, .move (.tmp 9), none⟩,
    ⟨some 26, .move (.tmp 0), none⟩,
    ⟨some 27, .move (.tmp 7), none⟩,
    ⟨some 28, .slice 84 (.tmp 26) none (some (.tmp 27)) none, none⟩,
    ⟨some 29, .call { callee := .builtin .append, args := #[.tmp 25, .tmp 28], argTypes := #[84, 84] }, none⟩,
    ⟨some 30, .move (.tmp 0), none⟩,
    ⟨some 31, .move (.tmp 7), none⟩,
    ⟨some 32, .binOp .add 3 (.tmp 31) (.const (.int .i64 1)) 3, none⟩,
    ⟨some 33, .slice 84 (.tmp 30) (some (.tmp 32)) none none, none⟩,
    ⟨some 34, .call { callee := .builtin .append, args := #[.tmp 29, .tmp 33], argTypes := #[84, 84] }, none⟩,
    ⟨some 9, .assign (.tmp 34), none⟩]
   [[], [], [], [1, 2], [0, 3], [], [], [6], [5, 7], [4, 8, 4], [9, 9, 0, 1, 2, 3, 4, 5, 6, 7, 8, 9]]
@[reducible] def q99_10 : SCode := .region [⟨some 35, .move (.tmp 7), none⟩,
    ⟨some 36, .move (.tmp 1), none⟩,
    ⟨some 37, .binOp .add 3 (.tmp 35) (.tmp 36) 3, none⟩,
    ⟨some 38, .binOp .sub 3 (.tmp 37) (.const (.int .i64 1)) 3, none⟩,
    ⟨some 39, .binOp .rem 3 (.tmp 38) (.const (.int .i64 2)) 3, none⟩,
    ⟨some 40, .binOp .eql 3 (.tmp 39) (.const (.int .i64 0)) 3, none⟩]
@[reducible] def q99_11 : SCode := .region [⟨some 6, .assign (.const (.int .i64 1)), none⟩]
@[reducible] def q99_12 : SCode := .region [⟨some 6, .assign (.const (.int .i64 (-1))), none⟩]
def q99_13 : SCode := .draw [⟨some 41, .move (.tmp 5), none⟩,
    ⟨some 42, .move (.tmp 6), none⟩,
    ⟨some 43, .move (.tmp 8), none⟩,
    ⟨some 44, .move (.tmp 1), none⟩,
    ⟨some 45, .binOp .sub 3 (.tmp 44) (.const (.int .i64 1)) 3, none⟩,
    ⟨some 46, .indexAddr 22 (.tmp 43) (.tmp 45), none⟩,
    ⟨some 47, .load 3 (.tmp 46), none⟩,
    ⟨some 48, .binOp .mul 3 (.tmp 42) (.tmp 47) 3, none⟩,
    ⟨some 49, .move (.tmp 9), none⟩,
    ⟨some 50, .move (.tmp 1), none⟩,
    ⟨some 51, .binOp .sub 3 (.tmp 50) (.const (.int .i64 1)) 3, none⟩,
    ⟨some 52, .call { callee := .value (.func 99), args := #[.tmp 49, .tmp 51], argTypes := #[84, 3] }, none⟩,
    ⟨some 53, .binOp .mul 3 (.tmp 48) (.tmp 52) 3, none⟩,
    ⟨some 54, .binOp .add 3 (.tmp 41) (.tmp 53) 3, none⟩,
    ⟨some 5, .assign (.tmp 54), none⟩]
   [[], [], [], [], [3], [2, 4], [5], [1, 6], [], [], [9], [8, 10], [7, 11], [0, 12], [13, 11, 0, 1, 2, 3, 4, 5, 6, 7, 8, 9, 10, 11, 12, 13]]
@[reducible] def q99_14 : SCode := .region [⟨some 55, .binOp .add 3 (.tmp 14) (.const (.int .i64 1)) 3, none⟩,
    ⟨some 14, .move (.tmp 55), none⟩]
def l99_0 : SCode := (.seq q99_5 (.seq (.cond (.tmp 15) .skip (.exit 0)) (.seq (.block 1 (.seq q99_6 (.seq q99_7 (.cond (.tmp 24) (.seq q99_8 (.seq q99_9 (.seq (.seq q99_10 (.cond (.tmp 40) q99_11 q99_12)) q99_13))) .skip)))) q99_14)))
@[reducible] def q99_15 : SCode := .region [⟨some 56, .move (.tmp 5), none⟩,
    ⟨some 4, .assign (.tmp 56), none⟩]
def s99 : SCode := (.seq q99_0 (.seq (.seq q99_1 (.cond (.tmp 11) (.seq q99_2 .ret) .skip)) (.seq q99_3 (.seq (.seq q99_4 (.block 0 (.loop l99_0))) (.seq q99_15 .ret)))))
theorem s99_strip : Yh (Yj Tryd.f99) = s99 := by kernel_rfl
theorem s99_ok : Yw 57 (Yj Tryd.f99) = true := by kernel_rfl
theorem s99_call [Tabs Tryd.prog] {args : List Value} {h : Yd} {Q : Value → Yd → Prop} (hsz : args.length ≤ 57) (hk : aw Tryd.prog 57 s99 (Zv Tryd.prog [.tmp 4] Q) (Zp 0 args) h) : ACall Tryd.prog 99 args h Q :=
  Va Tryd.func99 rfl (enters_of Tryd.func99 (by kernel_rfl) rfl) rfl rfl (by decide) s99_strip s99_ok hsz hk

end Go.Proofs.Tryd.Am

namespace Bq

theorem mul_den (q : Rat) : q * (q.den : Rat) = (q.num : Rat) := by
  have h := Rat.num_divInt_den q
  rw [Rat.divInt_eq_div] at h
  have h0 : (q.den : Rat) ≠ 0 := by
    have := q.den_nz
    intro hc
    exact this (by exact_mod_cast hc)
  conv => lhs; lhs; rw [← h]
  rw [Rat.intCast_natCast]
  exact Rat.div_mul_cancel h0
theorem divInt_of_mul {x y : Int} {q : Rat} (hy : y ≠ 0) (h : q * (y : Rat) = (x : Rat)) : Rat.divInt x y = q := by
  have h0 : (y : Rat) ≠ 0 := fun hc => hy (by exact_mod_cast hc)
  rw [Rat.divInt_eq_div, ← h]
  exact Rat.mul_div_cancel h0
def Rp (N : Nat) (x : Int) (q : Rat) : Prop := 0 < N ∧ q * (N : Rat) = (x : Rat)

section
variable {N M : Nat} {x y k : Int} {a b q : Rat}
theorem Rp.pos (h : Rp N x q) : 0 < N := h.1
theorem Rp.int (h : Rp N x q) : q.num * N = x * q.den := by
  have h1 := h.2
  have h2 := mul_den q
  have : (q.num : Rat) * (N : Rat) = (x : Rat) * (q.den : Rat) := by grind
  exact_mod_cast this
theorem Rp.dvd (h : Rp N x q) : q.den ∣ N := by
  have h1 := h.int
  have h2 : (q.den : Int) ∣ q.num * (N : Int) := ⟨x, by rw [h1, Int.mul_comm]⟩
  have h3 : q.den ∣ q.num.natAbs * N := by
    have := Int.natAbs_dvd_natAbs.2 h2
    simpa [Int.natAbs_mul] using this
  exact Nat.Coprime.dvd_of_dvd_mul_left (Nat.Coprime.symm q.reduced) h3
theorem Rp.num (h : Rp N x q) : q.num * ((N / q.den : Nat) : Int) = x := by
  obtain ⟨t, ht⟩ := h.dvd
  have hd : 0 < q.den := q.den_pos
  have h1 := h.int
  have e : N / q.den = t := by rw [ht]; exact Nat.mul_div_cancel_left _ hd
  rw [e]
  have h2 : (q.den : Int) * (q.num * t) = q.den * x := by
    rw [Int.mul_comm (q.den : Int) x, ← h1, ht]
    push_cast
    grind
  exact Int.eq_of_mul_eq_mul_left (by omega) h2
theorem Rp.le (h : Rp N x q) : q.num.natAbs ≤ x.natAbs := by
  rw [← h.num, Int.natAbs_mul, Int.natAbs_natCast]
  refine Nat.le_mul_of_pos_right _ ?_
  exact Nat.div_pos (Nat.le_of_dvd h.pos h.dvd) q.den_pos
theorem Rp.own (q : Rat) : Rp q.den q.num q := ⟨q.den_pos, mul_den q⟩
theorem Rp.whole (hN : 0 < N) (k : Int) : Rp N (k * N) (k : Rat) := ⟨hN, by push_cast; rfl⟩
theorem Rp.up (h : Rp N x q) (t : Nat) (ht : 0 < t) : Rp (N * t) (x * t) q := ⟨Nat.mul_pos h.1 ht, by have := h.2; push_cast; grind⟩
theorem Rp.up' (h : Rp N x q) (hd : N ∣ M) (hM : 0 < M) : Rp M (x * ((M / N : Nat) : Int)) q := by
  obtain ⟨t, rfl⟩ := hd
  have ht : 0 < t := Nat.pos_of_mul_pos_left hM
  rw [Nat.mul_div_cancel_left _ h.1]
  exact h.up t ht
theorem Rp.mul (ha : Rp N x a) (hb : Rp M y b) : Rp (N * M) (x * y) (a * b) := ⟨Nat.mul_pos ha.1 hb.1, by have := ha.2; have := hb.2; push_cast; grind⟩
theorem Rp.frac (h : Rp N x q) : Rat.divInt x N = q := divInt_of_mul (by have := h.1; omega) (by rw [Rat.intCast_natCast]; exact h.2)
theorem Rp.neg (h : Rp N x q) : Rp N (-x) (-q) := ⟨h.1, by have := h.2; push_cast; grind⟩
theorem Rp.lt (ha : Rp N x a) (hb : Rp N y b) : a < b ↔ x < y := by
  have h0 : (0 : Rat) < N := by exact_mod_cast ha.1
  rw [← Rat.mul_lt_mul_right h0, ha.2, hb.2]
  exact Rat.intCast_lt_intCast
end

end Bq

namespace Bq
def lcmL (l : List Nat) : Nat := l.foldl Nat.lcm 1
def stepG (s : Nat × Nat × Nat) (d : Nat) : Nat × Nat × Nat := (Nat.lcm s.1 d, Nat.lcm s.2.1 (Nat.gcd s.1 d), s.2.2 * d)
theorem foldl_lcm_dvd {l : List Nat} {m : Nat} : m ∣ l.foldl Nat.lcm m := by
  induction l generalizing m with
  | nil => exact Nat.dvd_refl _
  | cons d l ih => exact Nat.dvd_trans (Nat.dvd_lcm_left m d) ih
theorem foldl_lcm_mem {l : List Nat} {m d : Nat} (h : d ∈ l) : d ∣ l.foldl Nat.lcm m := by
  induction l generalizing m with
  | nil => cases h
  | cons e l ih =>
    rcases List.mem_cons.1 h with rfl | h
    · exact Nat.dvd_trans (Nat.dvd_lcm_right m d) foldl_lcm_dvd
    · exact ih h
end Bq

namespace Bq

def okP (p : Int × Int) : Bool := decide (1 ≤ p.2) && decide (p.2 ≤ 10000000000) && decide (0 ≤ p.1) && (Nat.gcd p.1.natAbs p.2.natAbs == 1)
def mulTo : List (Int × Int) → Nat → Nat
  | [], m => m
  | p :: ps, m => if okP p = true ∧ Nat.lcm m p.2.natAbs ≤ 10000000000 then mulTo ps (Nat.lcm m p.2.natAbs) else 0
def mult (ps : List (Int × Int)) : Nat := mulTo ps 1
def toQ (p : Int × Int) : Rat := Rat.divInt p.1 p.2
def ofQ (q : Rat) : Int × Int := (q.num, (q.den : Int))

theorem ofQ_toQ {p : Int × Int} (h1 : 1 ≤ p.2) (h2 : Nat.gcd p.1.natAbs p.2.natAbs = 1) : ofQ (toQ p) = p := by
  obtain ⟨x, y⟩ := p
  simp only at h1 h2
  obtain ⟨n, rfl⟩ : ∃ n : Nat, y = n := ⟨y.toNat, by omega⟩
  have hn : n ≠ 0 := by omega
  have e : toQ (x, (n : Int)) = ⟨x, n, hn, by simpa using h2⟩ := by
    rw [toQ, Rat.divInt_ofNat]
    exact (Rat.mk_eq_mkRat x n hn _).symm
  rw [e]; rfl
theorem okP_ofQ {p : Int × Int} (h : okP p = true) : ofQ (toQ p) = p := by
  simp only [okP, Bool.and_eq_true, decide_eq_true_eq, beq_iff_eq] at h
  exact ofQ_toQ h.1.1.1 h.2
theorem mulTo_spec : ∀ (ps : List (Int × Int)) (m : Nat), mulTo ps m ≠ 0 → m ≤ 10000000000 → (∀ p ∈ ps, okP p = true) ∧ mulTo ps m = (ps.map fun p => p.2.natAbs).foldl Nat.lcm m ∧ mulTo ps m ≤ 10000000000
  | [], m, h, hm => ⟨(fun _ h => by cases h), rfl, hm⟩
  | p :: ps, m, h, hm => by
    rw [mulTo] at h ⊢
    split at h
    · rename_i hc
      rw [if_pos hc]
      obtain ⟨h1, h2, h3⟩ := mulTo_spec ps _ h hc.2
      refine ⟨fun q hq => ?_, h2, h3⟩
      rcases List.mem_cons.1 hq with rfl | hq
      · exact hc.1
      · exact h1 q hq
    · exact absurd rfl h
theorem mult_spec {ps : List (Int × Int)} (h : mult ps ≠ 0) : (∀ p ∈ ps, okP p = true) ∧ mult ps = lcmL (ps.map fun p => p.2.natAbs) ∧ mult ps ≤ 10000000000 := mulTo_spec ps 1 h (by decide)
theorem mult_dvd {ps : List (Int × Int)} (h : mult ps ≠ 0) {p : Int × Int} (hp : p ∈ ps) : (toQ p).den ∣ mult ps := by
  obtain ⟨h1, h2, h3⟩ := mult_spec h
  have e := okP_ofQ (h1 p hp)
  have e2 : (toQ p).den = p.2.natAbs := by
    have := congrArg Prod.snd e
    simp only [ofQ] at this
    rw [← this]; rfl
  rw [h2, e2]
  exact foldl_lcm_mem (List.mem_map.2 ⟨p, hp, rfl⟩)
theorem okP_pos {p : Int × Int} (h : okP p = true) : 0 ≤ toQ p := by
  simp only [okP, Bool.and_eq_true, decide_eq_true_eq] at h
  exact Rat.divInt_nonneg h.1.2 (by omega)
theorem okP_le {p : Int × Int} (h : okP p = true) : toQ p ≤ 1 ↔ p.1 ≤ p.2 := by
  have hp := okP_ofQ h
  have h1 : (toQ p).num = p.1 := congrArg Prod.fst hp
  have h2 : ((toQ p).den : Int) = p.2 := congrArg Prod.snd hp
  rw [Rat.le_iff, h1, h2]
  simp

def sumTo (g : Nat → Rat) : Nat → Rat
  | 0 => 0
  | k + 1 => sumTo g k + g k
section
variable {g f : Nat → Rat}
theorem sumTo_nonneg {n : Nat} (h : ∀ i, i < n → 0 ≤ g i) : 0 ≤ sumTo g n := by
  induction n with
  | zero => exact Rat.le_refl
  | succ n ih => exact Rat.add_nonneg (ih fun i hi => h i (by omega)) (h n (by omega))
theorem sumTo_mono {k n : Nat} (hk : k ≤ n) (h : ∀ i, i < n → 0 ≤ g i) : sumTo g k ≤ sumTo g n := by
  induction n with
  | zero => rw [Nat.le_zero.1 hk]; exact Rat.le_refl
  | succ n ih =>
    rcases Nat.lt_or_ge n k with h1 | h1
    · rw [show k = n + 1 by omega]; exact Rat.le_refl
    · have h2 := ih h1 fun i hi => h i (by omega)
      have h3 := h n (by omega)
      rw [sumTo]; grind
theorem sumTo_one {k n : Nat} (hk : k < n) (h : ∀ i, i < n → 0 ≤ g i) : g k ≤ sumTo g n := by
  have h1 := sumTo_mono (show k + 1 ≤ n by omega) h
  have h2 := sumTo_nonneg (n := k) fun i hi => h i (by omega)
  rw [sumTo] at h1; grind
theorem sumTo_le {n : Nat} (h : ∀ i, i < n → f i ≤ g i) : sumTo f n ≤ sumTo g n := by
  induction n with
  | zero => exact Rat.le_refl
  | succ n ih =>
    have h1 := ih fun i hi => h i (by omega)
    have h2 := h n (by omega)
    rw [sumTo, sumTo]; grind
theorem sumTo_congr {n : Nat} (h : ∀ i, i < n → f i = g i) : sumTo f n = sumTo g n := by
  induction n with
  | zero => rfl
  | succ n ih => rw [sumTo, sumTo, ih fun i hi => h i (by omega), h n (by omega)]
theorem Xz (f g : Nat → Rat) (n : Nat) : sumTo (fun i => f i + g i) n = sumTo f n + sumTo g n := by
  induction n with
  | zero => exact (Rat.zero_add _).symm
  | succ n ih => simp only [sumTo, ih]; grind
theorem sumTo_mul (c : Rat) (g : Nat → Rat) (n : Nat) : sumTo (fun i => c * g i) n = c * sumTo g n := by
  induction n with
  | zero => exact (Rat.mul_zero _).symm
  | succ n ih => simp only [sumTo, ih]; grind
end
theorem Rp.bound {N C : Nat} {x : Int} {q : Rat} (h : Rp N x q) (h1 : -(C : Rat) ≤ q) (h2 : q ≤ C) : x.natAbs ≤ C * N := by
  have hN : (0 : Rat) ≤ N := Rat.natCast_nonneg
  have e := h.2
  have u1 := Rat.mul_le_mul_of_nonneg_right h2 hN
  have u2 := Rat.mul_le_mul_of_nonneg_right h1 hN
  rw [e] at u1 u2
  have v1 : x ≤ ((C * N : Nat) : Int) := by
    rw [← Rat.intCast_le_intCast]; push_cast; exact u1
  have v2 : -((C * N : Nat) : Int) ≤ x := by
    rw [← Rat.intCast_le_intCast]; push_cast
    rw [Rat.neg_mul] at u2; exact u2
  omega

end Bq

namespace Bq

def fq (ps : List (Int × Int)) (w : Nat) : Rat := toQ (ps.getD w (0, 0))
theorem getD_mem {ps : List (Int × Int)} {k : Nat} (hk : k < ps.length) : ps.getD k (0, 0) ∈ ps := by
  rw [List.getD, List.getElem?_eq_getElem hk]; exact List.getElem_mem hk
structure Chn (ps : List (Int × Int)) : Prop where
  m : mult ps ≠ 0
  le : ∀ p ∈ ps, p.1 ≤ p.2
theorem Chn.ok {ps : List (Int × Int)} (c : Chn ps) {p : Int × Int} (hp : p ∈ ps) : okP p = true := (mult_spec c.m).1 p hp
theorem Chn.rp {ps : List (Int × Int)} (c : Chn ps) {p : Int × Int} (hp : p ∈ ps) : Rp (mult ps) ((mult ps : Int) / p.2 * p.1) (toQ p) ∧ 0 ≤ (mult ps : Int) / p.2 * p.1 ∧ (mult ps : Int) / p.2 * p.1 ≤ mult ps ∧ 1 ≤ p.2 ∧ 0 ≤ p.1 ∧ (p.2 ∣ (mult ps : Int)) := by
  have hok := c.ok hp
  have hd := mult_dvd c.m hp
  have e := okP_ofQ hok
  have e1 : (toQ p).num = p.1 := congrArg Prod.fst e
  have e2 : ((toQ p).den : Int) = p.2 := congrArg Prod.snd e
  have hle := c.le p hp
  simp only [okP, Bool.and_eq_true, decide_eq_true_eq] at hok
  have r := Rp.up' (Rp.own (toQ p)) hd (Nat.pos_of_ne_zero c.m)
  have e3 : (mult ps : Int) / p.2 * p.1 = (toQ p).num * ((mult ps / (toQ p).den : Nat) : Int) := by
    rw [e1, Int.natCast_ediv, e2, Int.mul_comm]
  rw [e3]
  have hn : 0 ≤ (toQ p).num * ((mult ps / (toQ p).den : Nat) : Int) := Int.mul_nonneg (by omega) (Int.natCast_nonneg _)
  refine ⟨r, hn, ?_, by omega, by omega, ?_⟩
  · have hb := r.bound (C := 1) (by have := okP_pos (c.ok hp); have h2 : (0 : Rat) ≤ ((1 : Nat) : Rat) := Rat.natCast_nonneg; have : -((1 : Nat) : Rat) ≤ 0 := by decide
                                    exact Rat.le_trans this ‹0 ≤ toQ p›) ((okP_le (c.ok hp)).2 hle)
    omega
  · rw [← e2]; exact Int.natCast_dvd_natCast.2 hd
theorem Chn.unit {ps : List (Int × Int)} (c : Chn ps) {k : Nat} (hk : k < ps.length) : 0 ≤ fq ps k ∧ fq ps k ≤ 1 ∧ (fq ps k).den ∣ mult ps :=
  ⟨okP_pos (c.ok (getD_mem hk)), (okP_le (c.ok (getD_mem hk))).2 (c.le _ (getD_mem hk)), mult_dvd c.m (getD_mem hk)⟩

structure Fc (ps : List (Int × Int)) : Prop where
  len : 2 ≤ ps.length ∧ ps.length ≤ 5
  c : Chn ps
  den : ∀ p ∈ ps, p.2 ≤ 60
  sum : sumTo (fq ps) ps.length = 1
  small : mult ps ≤ 27885
theorem Fc.unit {ps : List (Int × Int)} (c : Fc ps) {k : Nat} (hk : k < ps.length) : 0 ≤ fq ps k ∧ fq ps k ≤ 1 := ⟨(c.c.unit hk).1, (c.c.unit hk).2.1⟩
end Bq

/-
  bets: the program's Grow.
  bets: scores and averages, in the program and in the reference.
  bets: averages of scores.
  bets: the reference's averages and scores.
-/
import Derived.Test.YtcmindinomacbaaPk7
import Derived.Test.YtcmindinomacbaaPk8
import Derived.Test.YtcmindinomacbaaPk5
set_option linter.all false
namespace Go.Proofs.Try.Am
open Go.Am Bq
set_option maxRecDepth 100000
set_option maxHeartbeats 4000000

/-- Where the growing ends. -/
structure GrowP (xs ys : List Int) (L : List Nat) (k : Nat) : Prop where
  perm : L.Perm (List.range xs.length)
  srt : L.Pairwise fun a b => gKey xs ys a ≤ gKey xs ys b
  le : k ≤ xs.length
  cond : ∀ j, j < k → gK xs ys L j < gVv xs ys (L.getD j 0)
  stop : k = xs.length ∨ ¬ gK xs ys L k < gVv xs ys (L.getD k 0)
theorem iL_range (n : Nat) : iL (List.range n) ++ [((n : Nat) : Int)] = iL (List.range (n + 1)) := by
  rw [iL, iL, List.range_succ, List.map_append]; rfl
theorem ownExt {e : TypeId} {h0 H H' h' : Yc} {v v' : Value} (hE : Ext (fun _ => False) h0 H) (hb : ∀ b, Yq v = some b → h0.length ≤ b) (g : List Blk) (hE' : Ext (fun i => Yq v = some i) (H ++ g) h') (hb' : Yq v' = Yq v ∨ ∃ b, Yq v' = some b ∧ (H ++ g).length ≤ b) : Ext (fun _ => False) h0 h' ∧ ∀ b, Yq v' = some b → h0.length ≤ b := by
  have hl' := hE'.1
  have l1 := hE.1
  rw [List.length_append] at hl'
  refine ⟨⟨by omega, fun q hq _ => ?_⟩, fun b hb0 => ?_⟩
  · rw [hE'.2 q (by rw [List.length_append]; omega) (fun hb0 => by have := hb q hb0; omega), List.getElem?_append_left (by omega)]
    exact hE.2 q hq id
  · rcases hb' with hb' | ⟨b', hb1, hb2⟩
    · exact hb b (hb' ▸ hb0)
    · rw [hb1] at hb0; cases hb0
      rw [List.length_append] at hb2
      omega
theorem boxI [Tabs prog] {h : Yc} {v : Value} {xs : List Int} (hv : IntSl h v xs) {K : Value → Yc → Prop} : boxK prog h 38 v K = K (Xe h) (h ++ [.cells [v] 38 false]) := by
  rcases hv with ⟨rfl, rfl⟩ | ⟨b, o, sp, cap, c, e, ro, rfl, _⟩ <;> simp [boxK, esz_38, Xe, cellsOf]

theorem growL_zero (xs ys : List Int) (L : List Nat) (K : Rat) : Vn xs ys L K 0 = List.replicate xs.length ((0 : Int), (1 : Int)) := by
  rw [Vn, List.eq_replicate_iff]
  refine ⟨by simp, fun p hp => ?_⟩
  obtain ⟨i, _, rfl⟩ := List.mem_map.1 hp
  rw [growQ, tkS, Nat.zero_testBit, if_neg (by simp)]
  rfl
theorem growL_step {xs ys : List Int} {L : List Nat} {K : Rat} {j x : Nat} (hx : L.getD j 0 = x) : (Vn xs ys L K j).set x (ofQ (gVa xs x + ((-1 : Int) : Rat) * (K * gVb ys x))) = Vn xs ys L K (j + 1) := by
  have hb : ∀ i, i ≠ x → (tkS L (j + 1)).testBit i = (tkS L j).testBit i := fun i hi => by
    rw [tkS, Nat.testBit_or, Nat.testBit_two_pow, hx, decide_eq_false (Ne.symm hi), Bool.or_false]
  have hbx : (tkS L (j + 1)).testBit x = true := by rw [tkS_bit]; exact ⟨j, by omega, hx⟩
  refine List.ext_getElem (by simp [Vn]) fun i h1 h2 => ?_
  rw [List.getElem_set]
  simp only [Vn, List.getElem_map, List.getElem_range]
  by_cases hi : x = i
  · subst hi
    rw [if_pos rfl, growQ, hbx, if_pos rfl]
  · rw [if_neg hi, growQ, growQ, hb i (Ne.symm hi)]

theorem s55_callW [Tabs Try.prog] {args : List Value} {h : Yc} {Q : Value → Yc → Prop} (hsz : args.length ≤ 107) (hk : AWS Try.prog 107 s55 (Zu Try.prog [.tmp 4, .tmp 5] Q) (Zp 0 args) h) : ACall Try.prog 55 args h Q :=
  Yx Try.func55 rfl (enters_of Try.func55 (by kernel_rfl) rfl) rfl rfl (by decide) s55_strip s55_ok hsz hk
theorem progGrow_call [Tabs prog] {h : Yc} {u v : Value} {xs ys : List Int} (hu : IntSl h u xs) (hv : IntSl h v ys) (hlx : xs.length < 9223372036854775808) (hly : ys.length < 9223372036854775808) :
    ACall prog 55 [u, v] h fun r h' => Ext (fun _ => False) h h' ∧ (raceB xs ys = true → ∃ L k s, GrowP xs ys L k ∧ r = .tuple #[s, .int .i64 0] ∧ PairSl h' s (Vn xs ys L (gK xs ys L k) k)) ∧ (raceB xs ys = false → r = .tuple #[.slice none 0 0, .int .i64 2]) := by
  refine s55_callW (by simp) ?_
  simp only [s55]
  obtain ⟨H, hH⟩ : ∃ H, H = h ++ [Blk.cells [u] 38 false] ++ [Blk.cells [v] 38 false] := ⟨_, rfl⟩
  have hE : Ext (fun _ => False) h H := by rw [hH]; exact (Ext.app _ _ _).trans (Ext.app _ _ _)
  have b2 : H[h.length]? = some (.cells [u] 38 false) := by rw [hH]; exact Wa (Xb _ _) _
  have b3 : H[h.length + 1]? = some (.cells [v] 38 false) := by
    rw [hH]; have := Xb (h ++ [Blk.cells [u] 38 false]) (Blk.cells [v] 38 false)
    rw [List.length_append, List.length_singleton] at this; exact this
  have huH := Xv hu hE
  have hvH := Xv hv hE
  have hv1 : IntSl (h ++ [Blk.cells [u] 38 false]) v ys := hv.grow _
  refine Zy fun N1 hN1 => ?_
  simp (maxSteps := 2000000) only [s55, ↓Za, ↓Zo, ↓Zr, ↓Ze, ↓Zi, ↓Zs, ↓Zf, ↓Zl, ↓Zg, ↓Zc, ↓Zb, ↓vdn, vup, Zh, Zk, Zm, Zn, Zj, List.map_cons, List.map_nil, cond_true, cond_false, aop, Zv, Zq, Zp, ev, sput, Zt, Zz, Yb, unK, Zd, Zw, Nat.reduceBEq, Nat.reduceAdd, Int.reduceBEq, Int.reduceBNe, Int.reduceLT, Zu, Ya, tup, tyf, boxI hu, boxI hv1, Xe, List.length_append, List.length_singleton]
  rw [← hH]
  refine hN1 [(0, u), (1, v), (2, .pointer (some ⟨h.length, 0, none⟩)), (3, .pointer (some ⟨h.length + 1, 0, none⟩)), (4, .slice none 0 0), (5, .int .i64 0)] _ _ ?_ (by simp (maxSteps := 2000000) only [↓Za, ↓Zo, ↓Zr, ↓Ze, ↓Zi, ↓Zs, ↓Zf, ↓Zl, ↓Zg, ↓Zc, ↓Zb, ↓vdn, vup, Zh, Zk, Zm, Zn, Zj, List.map_cons, List.map_nil, cond_true, cond_false, aop, Zv, Zq, Zp, ev, sput, Zt, Zz, Yb, unK, Zd, Zw, Nat.reduceBEq, Nat.reduceAdd, Int.reduceBEq, Int.reduceBNe, Int.reduceLT, Zu, Ya, tup, tyf])
  clear hN1
  try clear N1
  obtain ⟨p2, hp2⟩ : ∃ p, h.length = p := ⟨_, rfl⟩
  rw [hp2] at b2 b3 ⊢
  clear hH hv1
  refine Ye fun M hM => ?_
  refine Zy fun N2 hN2 => ?_
  simp (maxSteps := 2000000) only [s55, ↓Za, ↓Zo, ↓Zr, ↓Ze, ↓Zi, ↓Zs, ↓Zf, ↓Zl, ↓Zg, ↓Zc, ↓Zb, ↓vdn, vup, Zh, Zk, Zm, Zn, Zj, List.map_cons, List.map_nil, cond_true, cond_false, aop, Zv, Zq, Zp, ev, sput, Zt, Zz, Yb, unK, Zd, Zw, Nat.reduceBEq, Nat.reduceAdd, Int.reduceBEq, Int.reduceBNe, Int.reduceLT, Zu, Ya, tup, tyf, Yr, List.nil_append, List.append_nil, List.toList_toArray, List.cons_append, load1 b2 Vb, load1 b3 Vb]
  refine (israce_call huH hvH hlx hly).mono ?_
  rintro _ H ⟨rfl, rfl⟩
  simp (maxSteps := 2000000) only [s55, ↓Za, ↓Zo, ↓Zr, ↓Ze, ↓Zi, ↓Zs, ↓Zf, ↓Zl, ↓Zg, ↓Zc, ↓Zb, ↓vdn, vup, Zh, Zk, Zm, Zn, Zj, List.map_cons, List.map_nil, cond_true, cond_false, aop, Zv, Zq, Zp, ev, sput, Zt, Zz, Yb, unK, Zd, Zw, Nat.reduceBEq, Nat.reduceAdd, Int.reduceBEq, Int.reduceBNe, Int.reduceLT, Zu, Ya, tup, tyf]
  refine hN2 [(0, u), (1, v), (2, .pointer (some ⟨p2, 0, none⟩)), (3, .pointer (some ⟨p2 + 1, 0, none⟩)), (4, .slice none 0 0), (5, .int .i64 0), (20, .bool (!raceB xs ys))] _ _ ?_ (by simp (maxSteps := 2000000) only [↓Za, ↓Zo, ↓Zr, ↓Ze, ↓Zi, ↓Zs, ↓Zf, ↓Zl, ↓Zg, ↓Zc, ↓Zb, ↓vdn, vup, Zh, Zk, Zm, Zn, Zj, List.map_cons, List.map_nil, cond_true, cond_false, aop, Zv, Zq, Zp, ev, sput, Zt, Zz, Yb, unK, Zd, Zw, Nat.reduceBEq, Nat.reduceAdd, Int.reduceBEq, Int.reduceBNe, Int.reduceLT, Zu, Ya, tup, tyf])
  clear hN2
  try clear N2
  cases hr : raceB xs ys with
  | false =>
    refine Wc rfl ?_
    refine Yd ?_
    simp (maxSteps := 2000000) only [s55, ↓Za, ↓Zo, ↓Zr, ↓Ze, ↓Zi, ↓Zs, ↓Zf, ↓Zl, ↓Zg, ↓Zc, ↓Zb, ↓vdn, vup, Zh, Zk, Zm, Zn, Zj, List.map_cons, List.map_nil, cond_true, cond_false, aop, Zv, Zq, Zp, ev, sput, Zt, Zz, Yb, unK, Zd, Zw, Nat.reduceBEq, Nat.reduceAdd, Int.reduceBEq, Int.reduceBNe, Int.reduceLT, Zu, Ya, tup, tyf]
    refine ⟨hE, ?_, ?_⟩ <;> simp
  | true =>
  have rc := race_of hr
  have rl := rc.len
  have re := rc.eq
  refine Xs rfl ?_
  refine Yd ?_
  simp (maxSteps := 2000000) only [s55, ↓Za, ↓Zo, ↓Zr, ↓Ze, ↓Zi, ↓Zs, ↓Zf, ↓Zl, ↓Zg, ↓Zc, ↓Zb, ↓vdn, vup, Zh, Zk, Zm, Zn, Zj, List.map_cons, List.map_nil, cond_true, cond_false, aop, Zv, Zq, Zp, ev, sput, Zt, Zz, Yb, unK, Zd, Zw, Nat.reduceBEq, Nat.reduceAdd, Int.reduceBEq, Int.reduceBNe, Int.reduceLT, Zu, Ya, tup, tyf]
  refine hM [(0, u), (1, v), (2, .pointer (some ⟨p2, 0, none⟩)), (3, .pointer (some ⟨p2 + 1, 0, none⟩)), (4, .slice none 0 0), (5, .int .i64 0)] _ _ ?_ (by simp (maxSteps := 2000000) only [↓Za, ↓Zo, ↓Zr, ↓Ze, ↓Zi, ↓Zs, ↓Zf, ↓Zl, ↓Zg, ↓Zc, ↓Zb, ↓vdn, vup, Zh, Zk, Zm, Zn, Zj, List.map_cons, List.map_nil, cond_true, cond_false, aop, Zv, Zq, Zp, ev, sput, Zt, Zz, Yb, unK, Zd, Zw, Nat.reduceBEq, Nat.reduceAdd, Int.reduceBEq, Int.reduceBNe, Int.reduceLT, Zu, Ya, tup, tyf])
  clear hM
  try clear M
  refine Zy fun N3 hN3 => ?_
  simp (maxSteps := 2000000) only [s55, ↓Za, ↓Zo, ↓Zr, ↓Ze, ↓Zi, ↓Zs, ↓Zf, ↓Zl, ↓Zg, ↓Zc, ↓Zb, ↓vdn, vup, Zh, Zk, Zm, Zn, Zj, List.map_cons, List.map_nil, cond_true, cond_false, aop, Zv, Zq, Zp, ev, sput, Zt, Zz, Yb, unK, Zd, Zw, Nat.reduceBEq, Nat.reduceAdd, Int.reduceBEq, Int.reduceBNe, Int.reduceLT, Zu, Ya, tup, tyf]
  refine hN3 [(0, u), (1, v), (2, .pointer (some ⟨p2, 0, none⟩)), (3, .pointer (some ⟨p2 + 1, 0, none⟩)), (4, .slice none 0 0), (5, .int .i64 0), (6, .slice none 0 0)] _ _ ?_ (by simp (maxSteps := 2000000) only [↓Za, ↓Zo, ↓Zr, ↓Ze, ↓Zi, ↓Zs, ↓Zf, ↓Zl, ↓Zg, ↓Zc, ↓Zb, ↓vdn, vup, Zh, Zk, Zm, Zn, Zj, List.map_cons, List.map_nil, cond_true, cond_false, aop, Zv, Zq, Zp, ev, sput, Zt, Zz, Yb, unK, Zd, Zw, Nat.reduceBEq, Nat.reduceAdd, Int.reduceBEq, Int.reduceBNe, Int.reduceLT, Zu, Ya, tup, tyf])
  clear hN3
  try clear N3
  refine Ye fun Z hZ => ?_
  refine Zy fun N4 hN4 => ?_
  simp (maxSteps := 2000000) only [s55, ↓Za, ↓Zo, ↓Zr, ↓Ze, ↓Zi, ↓Zs, ↓Zf, ↓Zl, ↓Zg, ↓Zc, ↓Zb, ↓vdn, vup, Zh, Zk, Zm, Zn, Zj, List.map_cons, List.map_nil, cond_true, cond_false, aop, Zv, Zq, Zp, ev, sput, Zt, Zz, Yb, unK, Zd, Zw, Nat.reduceBEq, Nat.reduceAdd, Int.reduceBEq, Int.reduceBNe, Int.reduceLT, Zu, Ya, tup, tyf, load1 b2 Vb, huH.len]
  refine hN4 [(0, u), (1, v), (2, .pointer (some ⟨p2, 0, none⟩)), (3, .pointer (some ⟨p2 + 1, 0, none⟩)), (4, .slice none 0 0), (5, .int .i64 0), (6, .slice none 0 0), (21, u), (22, Zx xs.length), (23, .int .i64 0)] _ _ ?_ (by simp (maxSteps := 2000000) only [↓Za, ↓Zo, ↓Zr, ↓Ze, ↓Zi, ↓Zs, ↓Zf, ↓Zl, ↓Zg, ↓Zc, ↓Zb, ↓vdn, vup, Zh, Zk, Zm, Zn, Zj, List.map_cons, List.map_nil, cond_true, cond_false, aop, Zv, Zq, Zp, ev, sput, Zt, Zz, Yb, unK, Zd, Zw, Nat.reduceBEq, Nat.reduceAdd, Int.reduceBEq, Int.reduceBNe, Int.reduceLT, Zu, Ya, tup, tyf])
  clear hN4
  try clear N4
  refine Yf ?_
  refine Yh fun Q hQ => ?_
  refine Yv (γ := Nat × Value × Yc) (fun s => s.1 ≤ xs.length ∧ OwnSl 3 s.2.2 s.2.1 (iL (List.range s.1)) ∧ Ext (fun _ => False) H s.2.2 ∧ ∀ b, Yq s.2.1 = some b → H.length ≤ b)
    (fun s => ([(0, u), (1, v), (2, .pointer (some ⟨p2, 0, none⟩)), (3, .pointer (some ⟨p2 + 1, 0, none⟩)), (4, .slice none 0 0), (5, .int .i64 0), (6, s.2.1), (21, u), (22, Zx xs.length), (23, Zx (s.1 : Nat))], s.2.2)) (fun s => xs.length - s.1) (0, .slice none 0 0, H) ⟨Nat.zero_le _, .inl ⟨rfl, rfl⟩, Ext.refl _ _, fun b hb => by cases hb⟩ (by simp (maxSteps := 2000000) only [↓Za, ↓Zo, ↓Zr, ↓Ze, ↓Zi, ↓Zs, ↓Zf, ↓Zl, ↓Zg, ↓Zc, ↓Zb, ↓vdn, vup, Zh, Zk, Zm, Zn, Zj, List.map_cons, List.map_nil, cond_true, cond_false, aop, Zv, Zq, Zp, ev, sput, Zt, Zz, Yb, unK, Zd, Zw, Nat.reduceBEq, Nat.reduceAdd, Int.reduceBEq, Int.reduceBNe, Int.reduceLT, Zu, Ya, tup, tyf, Int.natCast_zero]) rfl ?_
  rintro ⟨k, x, hp⟩ ⟨hk, ho, hEp, hbx⟩
  simp only at hk ho hEp hbx
  refine Yh fun Q2 hQ2 => ?_
  simp only [l55_0]
  by_cases hin : (k : Int) < xs.length
  · have hk' : k < xs.length := by omega
    refine Zy fun N5 hN5 => ?_
    simp (maxSteps := 2000000) only [s55, ↓Za, ↓Zo, ↓Zr, ↓Ze, ↓Zi, ↓Zs, ↓Zf, ↓Zl, ↓Zg, ↓Zc, ↓Zb, ↓vdn, vup, Zh, Zk, Zm, Zn, Zj, List.map_cons, List.map_nil, cond_true, cond_false, aop, Zv, Zq, Zp, ev, sput, Zt, Zz, Yb, unK, Zd, Zw, Nat.reduceBEq, Nat.reduceAdd, Int.reduceBEq, Int.reduceBNe, Int.reduceLT, Zu, Ya, tup, tyf, hin]
    refine hN5 [(0, u), (1, v), (2, .pointer (some ⟨p2, 0, none⟩)), (3, .pointer (some ⟨p2 + 1, 0, none⟩)), (4, .slice none 0 0), (5, .int .i64 0), (6, x), (21, u), (22, Zx xs.length), (23, Zx (k : Nat)), (24, .bool true)] _ _ ?_ (by simp (maxSteps := 2000000) only [↓Za, ↓Zo, ↓Zr, ↓Ze, ↓Zi, ↓Zs, ↓Zf, ↓Zl, ↓Zg, ↓Zc, ↓Zb, ↓vdn, vup, Zh, Zk, Zm, Zn, Zj, List.map_cons, List.map_nil, cond_true, cond_false, aop, Zv, Zq, Zp, ev, sput, Zt, Zz, Yb, unK, Zd, Zw, Nat.reduceBEq, Nat.reduceAdd, Int.reduceBEq, Int.reduceBNe, Int.reduceLT, Zu, Ya, tup, tyf])
    clear hN5
    try clear N5
    refine Zy fun N6 hN6 => ?_
    simp (maxSteps := 2000000) only [s55, ↓Za, ↓Zo, ↓Zr, ↓Ze, ↓Zi, ↓Zs, ↓Zf, ↓Zl, ↓Zg, ↓Zc, ↓Zb, ↓vdn, vup, Zh, Zk, Zm, Zn, Zj, List.map_cons, List.map_nil, cond_true, cond_false, aop, Zv, Zq, Zp, ev, sput, Zt, Zz, Yb, unK, Zd, Zw, Nat.reduceBEq, Nat.reduceAdd, Int.reduceBEq, Int.reduceBNe, Int.reduceLT, Zu, Ya, tup, tyf]
    refine hN6 [(0, u), (1, v), (2, .pointer (some ⟨p2, 0, none⟩)), (3, .pointer (some ⟨p2 + 1, 0, none⟩)), (4, .slice none 0 0), (5, .int .i64 0), (6, x), (21, u), (22, Zx xs.length), (23, Zx (k : Nat))] _ _ ?_ (by simp (maxSteps := 2000000) only [↓Za, ↓Zo, ↓Zr, ↓Ze, ↓Zi, ↓Zs, ↓Zf, ↓Zl, ↓Zg, ↓Zc, ↓Zb, ↓vdn, vup, Zh, Zk, Zm, Zn, Zj, List.map_cons, List.map_nil, cond_true, cond_false, aop, Zv, Zq, Zp, ev, sput, Zt, Zz, Yb, unK, Zd, Zw, Nat.reduceBEq, Nat.reduceAdd, Int.reduceBEq, Int.reduceBNe, Int.reduceLT, Zu, Ya, tup, tyf])
    clear hN6
    try clear N6
    refine Ye fun B hB => ?_
    refine Yf ?_
    refine Zy fun N7 hN7 => ?_
    simp (maxSteps := 2000000) only [s55, ↓Za, ↓Zo, ↓Zr, ↓Ze, ↓Zi, ↓Zs, ↓Zf, ↓Zl, ↓Zg, ↓Zc, ↓Zb, ↓vdn, vup, Zh, Zk, Zm, Zn, Zj, List.map_cons, List.map_nil, cond_true, cond_false, aop, Zv, Zq, Zp, ev, sput, Zt, Zz, Yb, unK, Zd, Zw, Nat.reduceBEq, Nat.reduceAdd, Int.reduceBEq, Int.reduceBNe, Int.reduceLT, Zu, Ya, tup, tyf]
    refine hN7 [(0, u), (1, v), (2, .pointer (some ⟨p2, 0, none⟩)), (3, .pointer (some ⟨p2 + 1, 0, none⟩)), (4, .slice none 0 0), (5, .int .i64 0), (6, x), (7, Zx (k : Nat)), (21, u), (22, Zx xs.length), (23, Zx (k : Nat))] _ _ ?_ (by simp (maxSteps := 2000000) only [↓Za, ↓Zo, ↓Zr, ↓Ze, ↓Zi, ↓Zs, ↓Zf, ↓Zl, ↓Zg, ↓Zc, ↓Zb, ↓vdn, vup, Zh, Zk, Zm, Zn, Zj, List.map_cons, List.map_nil, cond_true, cond_false, aop, Zv, Zq, Zp, ev, sput, Zt, Zz, Yb, unK, Zd, Zw, Nat.reduceBEq, Nat.reduceAdd, Int.reduceBEq, Int.reduceBNe, Int.reduceLT, Zu, Ya, tup, tyf])
    clear hN7
    try clear N7
    refine Yd ?_
    simp (maxSteps := 2000000) only [s55, ↓Za, ↓Zo, ↓Zr, ↓Ze, ↓Zi, ↓Zs, ↓Zf, ↓Zl, ↓Zg, ↓Zc, ↓Zb, ↓vdn, vup, Zh, Zk, Zm, Zn, Zj, List.map_cons, List.map_nil, cond_true, cond_false, aop, Zv, Zq, Zp, ev, sput, Zt, Zz, Yb, unK, Zd, Zw, Nat.reduceBEq, Nat.reduceAdd, Int.reduceBEq, Int.reduceBNe, Int.reduceLT, Zu, Ya, tup, tyf, List.toList_toArray, litI1]
    refine OwnSl.append (x := (k : Int)) (ho.ext (S := fun _ => False) (Ext.app _ _ _) (fun _ _ => id)) app_38_38 (by simp; omega) (Xb _ _) ?_
    intro x' h' ho' hE' hb'
    rw [iL_range] at ho'
    obtain ⟨hEn, hbn⟩ := ownExt (e := 3) (H' := hp) hEp hbx _ hE' hb'
    refine hB [(0, u), (1, v), (2, .pointer (some ⟨p2, 0, none⟩)), (3, .pointer (some ⟨p2 + 1, 0, none⟩)), (4, .slice none 0 0), (5, .int .i64 0), (6, x'), (21, u), (22, Zx xs.length), (23, Zx (k : Nat))] _ _ ?_ (by simp (maxSteps := 2000000) only [↓Za, ↓Zo, ↓Zr, ↓Ze, ↓Zi, ↓Zs, ↓Zf, ↓Zl, ↓Zg, ↓Zc, ↓Zb, ↓vdn, vup, Zh, Zk, Zm, Zn, Zj, List.map_cons, List.map_nil, cond_true, cond_false, aop, Zv, Zq, Zp, ev, sput, Zt, Zz, Yb, unK, Zd, Zw, Nat.reduceBEq, Nat.reduceAdd, Int.reduceBEq, Int.reduceBNe, Int.reduceLT, Zu, Ya, tup, tyf])
    clear hB
    try clear B
    refine Yd ?_
    simp (maxSteps := 2000000) only [s55, ↓Za, ↓Zo, ↓Zr, ↓Ze, ↓Zi, ↓Zs, ↓Zf, ↓Zl, ↓Zg, ↓Zc, ↓Zb, ↓vdn, vup, Zh, Zk, Zm, Zn, Zj, List.map_cons, List.map_nil, cond_true, cond_false, aop, Zv, Zq, Zp, ev, sput, Zt, Zz, Yb, unK, Zd, Zw, Nat.reduceBEq, Nat.reduceAdd, Int.reduceBEq, Int.reduceBNe, Int.reduceLT, Zu, Ya, tup, tyf, add1 (show k < 9223372036854775807 by omega)]
    exact hQ2 _ _ _ ⟨(k + 1, x', h'), ⟨hk', ho', hEn, hbn⟩, by simp only; omega, by simp (maxSteps := 2000000) only [↓Za, ↓Zo, ↓Zr, ↓Ze, ↓Zi, ↓Zs, ↓Zf, ↓Zl, ↓Zg, ↓Zc, ↓Zb, ↓vdn, vup, Zh, Zk, Zm, Zn, Zj, List.map_cons, List.map_nil, cond_true, cond_false, aop, Zv, Zq, Zp, ev, sput, Zt, Zz, Yb, unK, Zd, Zw, Nat.reduceBEq, Nat.reduceAdd, Int.reduceBEq, Int.reduceBNe, Int.reduceLT, Zu, Ya, tup, tyf], rfl⟩
  · obtain rfl : k = xs.length := by omega
    refine Zy fun N8 hN8 => ?_
    simp (maxSteps := 2000000) only [s55, ↓Za, ↓Zo, ↓Zr, ↓Ze, ↓Zi, ↓Zs, ↓Zf, ↓Zl, ↓Zg, ↓Zc, ↓Zb, ↓vdn, vup, Zh, Zk, Zm, Zn, Zj, List.map_cons, List.map_nil, cond_true, cond_false, aop, Zv, Zq, Zp, ev, sput, Zt, Zz, Yb, unK, Zd, Zw, Nat.reduceBEq, Nat.reduceAdd, Int.reduceBEq, Int.reduceBNe, Int.reduceLT, Zu, Ya, tup, tyf, hin]
    refine hN8 [(0, u), (1, v), (2, .pointer (some ⟨p2, 0, none⟩)), (3, .pointer (some ⟨p2 + 1, 0, none⟩)), (4, .slice none 0 0), (5, .int .i64 0), (6, x), (21, u), (22, Zx xs.length), (23, Zx xs.length), (24, .bool false)] _ _ ?_ (by simp (maxSteps := 2000000) only [↓Za, ↓Zo, ↓Zr, ↓Ze, ↓Zi, ↓Zs, ↓Zf, ↓Zl, ↓Zg, ↓Zc, ↓Zb, ↓vdn, vup, Zh, Zk, Zm, Zn, Zj, List.map_cons, List.map_nil, cond_true, cond_false, aop, Zv, Zq, Zp, ev, sput, Zt, Zz, Yb, unK, Zd, Zw, Nat.reduceBEq, Nat.reduceAdd, Int.reduceBEq, Int.reduceBNe, Int.reduceLT, Zu, Ya, tup, tyf])
    clear hN8
    try clear N8
    refine Zy fun N9 hN9 => ?_
    simp (maxSteps := 2000000) only [s55, ↓Za, ↓Zo, ↓Zr, ↓Ze, ↓Zi, ↓Zs, ↓Zf, ↓Zl, ↓Zg, ↓Zc, ↓Zb, ↓vdn, vup, Zh, Zk, Zm, Zn, Zj, List.map_cons, List.map_nil, cond_true, cond_false, aop, Zv, Zq, Zp, ev, sput, Zt, Zz, Yb, unK, Zd, Zw, Nat.reduceBEq, Nat.reduceAdd, Int.reduceBEq, Int.reduceBNe, Int.reduceLT, Zu, Ya, tup, tyf]
    refine hQ2 _ _ _ (hQ _ _ _ ?_)
    simp (maxSteps := 2000000) only [s55, ↓Za, ↓Zo, ↓Zr, ↓Ze, ↓Zi, ↓Zs, ↓Zf, ↓Zl, ↓Zg, ↓Zc, ↓Zb, ↓vdn, vup, Zh, Zk, Zm, Zn, Zj, List.map_cons, List.map_nil, cond_true, cond_false, aop, Zv, Zq, Zp, ev, sput, Zt, Zz, Yb, unK, Zd, Zw, Nat.reduceBEq, Nat.reduceAdd, Int.reduceBEq, Int.reduceBNe, Int.reduceLT, Zu, Ya, tup, tyf, if_true]
    refine hZ [(0, u), (1, v), (2, .pointer (some ⟨p2, 0, none⟩)), (3, .pointer (some ⟨p2 + 1, 0, none⟩)), (4, .slice none 0 0), (5, .int .i64 0), (6, x), (24, .bool false)] _ _ ?_ (by simp (maxSteps := 2000000) only [↓Za, ↓Zo, ↓Zr, ↓Ze, ↓Zi, ↓Zs, ↓Zf, ↓Zl, ↓Zg, ↓Zc, ↓Zb, ↓vdn, vup, Zh, Zk, Zm, Zn, Zj, List.map_cons, List.map_nil, cond_true, cond_false, aop, Zv, Zq, Zp, ev, sput, Zt, Zz, Yb, unK, Zd, Zw, Nat.reduceBEq, Nat.reduceAdd, Int.reduceBEq, Int.reduceBNe, Int.reduceLT, Zu, Ya, tup, tyf])
    clear hZ
    try clear Z
    -- sorted
    have hup := Xv huH hEp
    have hvp := Xv hvH hEp
    have c2 : hp[p2]? = some (.cells [u] 38 false) := (hEp.2 _ (Yp b2) id).trans b2
    have c3 : hp[p2 + 1]? = some (.cells [v] 38 false) := (hEp.2 _ (Yp b3) id).trans b3
    obtain ⟨bl, zs, rfl, hbl⟩ : ∃ b zs, x = .slice (some ⟨b, 0, some 0⟩) (List.range xs.length).length ((List.range xs.length).length + zs.length) ∧ hp[b]? = some (.ints (iL (List.range xs.length) ++ zs) 3 false) := by
      rcases ho with ⟨_, h0⟩ | ⟨b, zs, h1, h2⟩
      · have := congrArg List.length h0
        rw [iL_len, List.length_range] at this
        rw [List.length_nil] at this; omega
      · exact ⟨b, zs, by rw [h1, iL_len], h2⟩
    have hblH : H.length ≤ bl := hbx bl rfl
    have hset : ∀ (L' : List Nat), Ext (fun _ => False) H (hp.set bl (.ints (iL L' ++ zs) 3 false)) := fun L' => hEp.set_ge hblH _
    have hcmp : ∀ (L' : List Nat) (x y : Nat), x ∈ List.range xs.length → y ∈ List.range xs.length → Xa prog 93 ([Zx x, Zx y] ++ (#[.pointer (some ⟨p2, 0, none⟩), .pointer (some ⟨p2 + 1, 0, none⟩)] : Array Value).toList) (hp.set bl (.ints (iL L' ++ zs) 3 false)) (Zx (xs.getD y 0 * ys.getD y 0 - xs.getD x 0 * ys.getD x 0)) := fun L' x y hx hy =>
      cmp_call (((hset L').2 _ (Yp b2) id).trans b2) (((hset L').2 _ (Yp b3) id).trans b3) (Xv huH (hset L')) (Xv hvH (hset L')) rc.a rc.b re (List.mem_range.1 hx) (List.mem_range.1 hy)
    have sf := sortF_call (h := hp) (b := bl) (L0 := List.range xs.length) (ys := zs) (g := 93) (cap := #[.pointer (some ⟨p2, 0, none⟩), .pointer (some ⟨p2 + 1, 0, none⟩)]) (key := gKey xs ys) (cmp := fun x y => xs.getD y 0 * ys.getD y 0 - xs.getD x 0 * ys.getD x 0) rfl
      (fun x y hx hxy => by simp only [gKey]; omega) hcmp hbl (by rw [List.length_range]; omega) (fun x hx => by have := List.mem_range.1 hx; omega)
    refine Zy fun N10 hN10 => ?_
    simp (maxSteps := 2000000) only [s55, ↓Za, ↓Zo, ↓Zr, ↓Ze, ↓Zi, ↓Zs, ↓Zf, ↓Zl, ↓Zg, ↓Zc, ↓Zb, ↓vdn, vup, Zh, Zk, Zm, Zn, Zj, List.map_cons, List.map_nil, cond_true, cond_false, aop, Zv, Zq, Zp, ev, sput, Zt, Zz, Yb, unK, Zd, Zw, Nat.reduceBEq, Nat.reduceAdd, Int.reduceBEq, Int.reduceBNe, Int.reduceLT, Zu, Ya, tup, tyf, Yr, List.nil_append, List.append_nil, List.toList_toArray, List.cons_append, List.map_toArray]
    refine (sf).mono ?_
    rintro rr h5 ⟨L, hpL, hsL, rfl⟩
    obtain ⟨G, hG⟩ : ∃ G, hp.set bl (.ints (iL L ++ zs) 3 false) = G := ⟨_, rfl⟩
    have hLn : L.length = xs.length := by rw [hpL.length_eq, List.length_range]
    have hEG : Ext (fun _ => False) H G := by rw [← hG]; exact hset L
    have o6 : IntSl G (.slice (some ⟨bl, 0, some 0⟩) (List.range xs.length).length ((List.range xs.length).length + zs.length)) (iL L) := by
      rw [← hG]; exact (ov_own (Yp hbl) (by rw [hLn, List.length_range])).int
    rw [hG]
    refine hN10 [(0, u), (1, v), (2, .pointer (some ⟨p2, 0, none⟩)), (3, .pointer (some ⟨p2 + 1, 0, none⟩)), (4, .slice none 0 0), (5, .int .i64 0), (6, .slice (some ⟨bl, 0, some 0⟩) (List.range xs.length).length ((List.range xs.length).length + zs.length)), (24, .bool false)] _ _ ?_ (by simp (maxSteps := 2000000) only [↓Za, ↓Zo, ↓Zr, ↓Ze, ↓Zi, ↓Zs, ↓Zf, ↓Zl, ↓Zg, ↓Zc, ↓Zb, ↓vdn, vup, Zh, Zk, Zm, Zn, Zj, List.map_cons, List.map_nil, cond_true, cond_false, aop, Zv, Zq, Zp, ev, sput, Zt, Zz, Yb, unK, Zd, Zw, Nat.reduceBEq, Nat.reduceAdd, Int.reduceBEq, Int.reduceBNe, Int.reduceLT, Zu, Ya, tup, tyf])
    clear hN10
    try clear N10
    obtain ⟨w6, hw6⟩ : ∃ w, Value.slice (some ⟨bl, 0, some 0⟩) (List.range xs.length).length ((List.range xs.length).length + zs.length) = w := ⟨_, rfl⟩
    rw [hw6] at o6 ⊢
    have d2 := (hEG.2 _ (Yp b2) id).trans b2
    have d3 := (hEG.2 _ (Yp b3) id).trans b3
    have huG := Xv huH hEG
    have hvG := Xv hvH hEG
    have hE0 := hE.trans hEG
    clear sf hcmp hset hG hw6 c2 c3 hup hvp hbl hblH hbx hEp ho b2 b3 huH hvH hE hEG
    have wc : ∀ h', Xa prog 70 [Zx 1] h' (qV ((1 : Int) : Rat)) := fun _ => whole_call
    have q1' : qV ((1 : Int) : Rat) = .agg #[Zx 1, Zx 1] := rfl
    have st8 : ∀ {K : Yc → Prop}, Xj prog (G ++ [z0] ++ [z0]) 26 (.pointer (some ⟨G.length, 0, none⟩)) (.agg #[Zx 1, Zx 1]) K = K (G ++ [fC 1 1] ++ [z0]) := fun {K} => by
      rw [Wb (b2_0 ..) rfl, List.set_append_left _ _ (by simp), Wp]
    have st9 : ∀ {K : Yc → Prop}, Xj prog (G ++ [fC 1 1] ++ [z0]) 26 (.pointer (some ⟨G.length + 1, 0, none⟩)) (.agg #[Zx 1, Zx 1]) K = K (G ++ [fC 1 1] ++ [fC 1 1]) := fun {K} => by
      have := Wp (G ++ [fC 1 1]) z0 (fC 1 1)
      simp only [List.length_append, List.length_singleton] at this
      rw [Wb (b2_1 ..) rfl, this]
    have st10 : ∀ {K : Yc → Prop}, Xj prog (G ++ [fC 1 1] ++ [fC 1 1] ++ [z0]) 26 (.pointer (some ⟨G.length + 1 + 1, 0, none⟩)) (.agg #[Zx 1, Zx 1]) K = K (G ++ [fC 1 1] ++ [fC 1 1] ++ [fC 1 1]) := fun {K} => by
      have := Wp (G ++ [fC 1 1] ++ [fC 1 1]) z0 (fC 1 1)
      simp only [List.length_append, List.length_singleton] at this
      rw [Wb (b3_2 ..) rfl, this]
    refine Zy fun N11 hN11 => ?_
    simp (maxSteps := 2000000) only [s55, ↓Za, ↓Zo, ↓Zr, ↓Ze, ↓Zi, ↓Zs, ↓Zf, ↓Zl, ↓Zg, ↓Zc, ↓Zb, ↓vdn, vup, Zh, Zk, Zm, Zn, Zj, List.map_cons, List.map_nil, cond_true, cond_false, aop, Zv, Zq, Zp, ev, sput, Zt, Zz, Yb, unK, Zd, Zw, Nat.reduceBEq, Nat.reduceAdd, Int.reduceBEq, Int.reduceBNe, Int.reduceLT, Zu, Ya, tup, tyf, Yr, List.nil_append, List.append_nil, List.toList_toArray, List.cons_append]
    refine (wc G).mono ?_
    rintro _ G ⟨rfl, rfl⟩
    refine (wc G).mono ?_
    rintro _ G ⟨rfl, rfl⟩
    simp (maxSteps := 2000000) only [s55, ↓Za, ↓Zo, ↓Zr, ↓Ze, ↓Zi, ↓Zs, ↓Zf, ↓Zl, ↓Zg, ↓Zc, ↓Zb, ↓vdn, vup, Zh, Zk, Zm, Zn, Zj, List.map_cons, List.map_nil, cond_true, cond_false, aop, Zv, Zq, Zp, ev, sput, Zt, Zz, Yb, unK, Zd, Zw, Nat.reduceBEq, Nat.reduceAdd, Int.reduceBEq, Int.reduceBNe, Int.reduceLT, Zu, Ya, tup, tyf, q1', Xw, Xe, Xx, List.length_append, List.length_singleton, st8, st9]
    refine hN11 [(0, u), (1, v), (2, .pointer (some ⟨p2, 0, none⟩)), (3, .pointer (some ⟨p2 + 1, 0, none⟩)), (4, .slice none 0 0), (5, .int .i64 0), (6, w6), (8, .pointer (some ⟨G.length, 0, none⟩)), (9, .pointer (some ⟨G.length + 1, 0, none⟩)), (24, .bool false)] _ _ ?_ (by simp (maxSteps := 2000000) only [↓Za, ↓Zo, ↓Zr, ↓Ze, ↓Zi, ↓Zs, ↓Zf, ↓Zl, ↓Zg, ↓Zc, ↓Zb, ↓vdn, vup, Zh, Zk, Zm, Zn, Zj, List.map_cons, List.map_nil, cond_true, cond_false, aop, Zv, Zq, Zp, ev, sput, Zt, Zz, Yb, unK, Zd, Zw, Nat.reduceBEq, Nat.reduceAdd, Int.reduceBEq, Int.reduceBNe, Int.reduceLT, Zu, Ya, tup, tyf])
    clear hN11
    try clear N11
    refine Zy fun N12 hN12 => ?_
    simp (maxSteps := 2000000) only [s55, ↓Za, ↓Zo, ↓Zr, ↓Ze, ↓Zi, ↓Zs, ↓Zf, ↓Zl, ↓Zg, ↓Zc, ↓Zb, ↓vdn, vup, Zh, Zk, Zm, Zn, Zj, List.map_cons, List.map_nil, cond_true, cond_false, aop, Zv, Zq, Zp, ev, sput, Zt, Zz, Yb, unK, Zd, Zw, Nat.reduceBEq, Nat.reduceAdd, Int.reduceBEq, Int.reduceBNe, Int.reduceLT, Zu, Ya, tup, tyf, Yr, List.nil_append, List.append_nil, List.toList_toArray, List.cons_append]
    refine (wc (G ++ [fC 1 1] ++ [fC 1 1])).mono ?_
    rintro _ _ ⟨rfl, rfl⟩
    simp (maxSteps := 2000000) only [s55, ↓Za, ↓Zo, ↓Zr, ↓Ze, ↓Zi, ↓Zs, ↓Zf, ↓Zl, ↓Zg, ↓Zc, ↓Zb, ↓vdn, vup, Zh, Zk, Zm, Zn, Zj, List.map_cons, List.map_nil, cond_true, cond_false, aop, Zv, Zq, Zp, ev, sput, Zt, Zz, Yb, unK, Zd, Zw, Nat.reduceBEq, Nat.reduceAdd, Int.reduceBEq, Int.reduceBNe, Int.reduceLT, Zu, Ya, tup, tyf, q1', Xw, Xe, Xx, List.length_append, List.length_singleton, st10]
    obtain ⟨G2, hG2⟩ : ∃ G2, G2 = G ++ [fC 1 1] ++ [fC 1 1] ++ [fC 1 1] := ⟨_, rfl⟩
    obtain ⟨p8, hp8⟩ : ∃ p, G.length = p := ⟨_, rfl⟩
    have l2 : G2.length = p8 + 3 := by rw [hG2, ← hp8]; simp
    have e8 : G2[p8]? = some (fC 1 1) := by rw [hG2, ← hp8]; exact b3_0 ..
    have e9 : G2[p8 + 1]? = some (fC 1 1) := by rw [hG2, ← hp8]; exact b3_1 ..
    have e10 : G2[p8 + 2]? = some (fC 1 1) := by rw [hG2, ← hp8]; exact b3_2 ..
    have hEG2 : Ext (fun _ => False) G G2 := by rw [hG2]; exact e3 ..
    rw [← hG2, hp8]
    refine hN12 [(0, u), (1, v), (2, .pointer (some ⟨p2, 0, none⟩)), (3, .pointer (some ⟨p2 + 1, 0, none⟩)), (4, .slice none 0 0), (5, .int .i64 0), (6, w6), (8, .pointer (some ⟨p8, 0, none⟩)), (9, .pointer (some ⟨p8 + 1, 0, none⟩)), (10, .pointer (some ⟨p8 + 2, 0, none⟩)), (24, .bool false)] _ _ ?_ (by simp (maxSteps := 2000000) only [↓Za, ↓Zo, ↓Zr, ↓Ze, ↓Zi, ↓Zs, ↓Zf, ↓Zl, ↓Zg, ↓Zc, ↓Zb, ↓vdn, vup, Zh, Zk, Zm, Zn, Zj, List.map_cons, List.map_nil, cond_true, cond_false, aop, Zv, Zq, Zp, ev, sput, Zt, Zz, Yb, unK, Zd, Zw, Nat.reduceBEq, Nat.reduceAdd, Int.reduceBEq, Int.reduceBNe, Int.reduceLT, Zu, Ya, tup, tyf])
    clear hN12
    try clear N12
    clear hG2 st8 st9 st10
    refine Zy fun N13 hN13 => ?_
    simp (maxSteps := 2000000) only [s55, ↓Za, ↓Zo, ↓Zr, ↓Ze, ↓Zi, ↓Zs, ↓Zf, ↓Zl, ↓Zg, ↓Zc, ↓Zb, ↓vdn, vup, Zh, Zk, Zm, Zn, Zj, List.map_cons, List.map_nil, cond_true, cond_false, aop, Zv, Zq, Zp, ev, sput, Zt, Zz, Yb, unK, Zd, Zw, Nat.reduceBEq, Nat.reduceAdd, Int.reduceBEq, Int.reduceBNe, Int.reduceLT, Zu, Ya, tup, tyf]
    refine hN13 [(0, u), (1, v), (2, .pointer (some ⟨p2, 0, none⟩)), (3, .pointer (some ⟨p2 + 1, 0, none⟩)), (4, .slice none 0 0), (5, .int .i64 0), (6, w6), (8, .pointer (some ⟨p8, 0, none⟩)), (9, .pointer (some ⟨p8 + 1, 0, none⟩)), (10, .pointer (some ⟨p8 + 2, 0, none⟩)), (11, .slice none 0 0), (24, .bool false)] _ _ ?_ (by simp (maxSteps := 2000000) only [↓Za, ↓Zo, ↓Zr, ↓Ze, ↓Zi, ↓Zs, ↓Zf, ↓Zl, ↓Zg, ↓Zc, ↓Zb, ↓vdn, vup, Zh, Zk, Zm, Zn, Zj, List.map_cons, List.map_nil, cond_true, cond_false, aop, Zv, Zq, Zp, ev, sput, Zt, Zz, Yb, unK, Zd, Zw, Nat.reduceBEq, Nat.reduceAdd, Int.reduceBEq, Int.reduceBNe, Int.reduceLT, Zu, Ya, tup, tyf])
    clear hN13
    try clear N13
    have n1 : (1 : Rat).num = 1 := rfl
    have n2 : ((1 : Rat).den : Int) = 1 := rfl
    have gP0 : gP xs L 0 = 1 := by rw [gP, sumTo]; decide +kernel
    have gQ0 : gQ ys L 0 = 1 := by rw [gQ, sumTo]; decide +kernel
    have gK0 : gK xs ys L 0 = 1 := by rw [gK, gP0, gQ0]; decide +kernel
    have ltL : ∀ j, j < xs.length → L.getD j 0 < xs.length := fun j hj => g_lt rc hpL hj
    have hlen6 : ∀ {K : Value → Prop}, lenK w6 K = K (Zx xs.length) := fun {K} => by rw [o6.len, iL_len, hLn]
    refine Ye fun Z hZ => ?_
    have fin : ∀ k (w : Value) (hp : Yc), GrowP xs ys L k → OwnSl 3 hp w (iL (L.take k)) → Ext (fun _ => False) G hp → p8 + 3 ≤ hp.length → hp[p8 + 2]? = some (fC (gK xs ys L k).num (gK xs ys L k).den) → (∀ b, Yq w = some b → p8 + 3 ≤ b) → ∀ e, ELe e [(0, u), (1, v), (2, .pointer (some ⟨p2, 0, none⟩)), (3, .pointer (some ⟨p2 + 1, 0, none⟩)), (4, .slice none 0 0), (5, .int .i64 0), (6, w6), (8, .pointer (some ⟨p8, 0, none⟩)), (9, .pointer (some ⟨p8 + 1, 0, none⟩)), (10, .pointer (some ⟨p8 + 2, 0, none⟩)), (11, w), (24, .bool false)] → Z e hp := by
      intro k w hp gp ow hEp hl3 f10 hbw e he
      refine hZ _ _ _ ?_ he
      have hk := gp.le
      obtain ⟨y, y0, y1, rQ, rK⟩ := gK_rp rc hpL hk gp.cond
      have sb := gSum_le rc hpL k hk
      have nK : (27720 * (12 - gSum xs L k)).natAbs ≤ 332640 := by omega
      obtain ⟨K, hK⟩ : ∃ K, gK xs ys L k = K := ⟨_, rfl⟩
      rw [hK] at rK f10
      obtain ⟨X, hX⟩ : ∃ X, 27720 * (12 - gSum xs L k) = X := ⟨_, rfl⟩
      rw [hX] at rK nK
      have c2 := (hEp.2 _ (Yp d2) id).trans d2
      obtain ⟨F, hF⟩ : ∃ F : Nat → Yc, F = fun j => hp ++ [.ints [0, 1] 26 false] ++ [.cells ((Ym (Vn xs ys L K j)).map Zx) 26 false] := ⟨_, rfl⟩
      have hF0 : ∀ j, (F j)[hp.length + 1]? = some (.cells ((Ym (Vn xs ys L K j)).map Zx) 26 false) := fun j => by rw [hF]; exact b2_1 ..
      have hFE : ∀ j, Ext (fun _ => False) hp (F j) := fun j => by rw [hF]; exact e2 ..
      have hFs : ∀ j, (F j).set (hp.length + 1) (.cells ((Ym (Vn xs ys L K (j + 1))).map Zx) 26 false) = F (j + 1) := fun j => by
        simp only [hF]
        rw [show hp.length + 1 = (hp ++ [Blk.ints [0, 1] 26 false]).length by simp, Wp]
      have hF1 : hp ++ [.ints [0, 1] 26 false] ++ [.cells ((Ym (List.replicate xs.length ((0 : Int), (1 : Int)))).map Zx) 26 false] = F 0 := by
        simp only [hF, growL_zero]
      have rep := repeat_call (h := hp ++ [.ints [0, 1] 26 false]) (b0 := hp.length) (x := 0) (y := 1) (Xb _ _) (show 1 ≤ xs.length by omega) (show xs.length < 6 by omega)
      rw [hF1, List.length_append, List.length_singleton] at rep
      have q0 : qV ((0 : Int) : Rat) = .agg #[Zx 0, Zx 1] := rfl
      refine Zy fun N14 hN14 => ?_
      simp only [q55_22]
      refine aw_drawR (fun z => z[p2]? = some (.cells [u] 38 false)) [(0, 1), (2, 5)] (by kernel_rfl) (by kernel_rfl) (by kernel_rfl) (by kernel_rfl) c2 ?_
      simp (maxSteps := 2000000) only [s55, ↓Za, ↓Zo, ↓Zr, ↓Ze, ↓Zi, ↓Zs, ↓Zf, ↓Zl, ↓Zg, ↓Zc, ↓Zb, ↓vdn, vup, Zh, Zk, Zm, Zn, Zj, List.map_cons, List.map_nil, cond_true, cond_false, aop, Zv, Zq, Zp, ev, sput, Zt, Zz, Yb, unK, Zd, Zw, Nat.reduceBEq, Nat.reduceAdd, Int.reduceBEq, Int.reduceBNe, Int.reduceLT, Zu, Ya, tup, tyf, Yr, List.nil_append, List.append_nil, List.toList_toArray, List.cons_append]
      refine ⟨_, _, (show Xa prog 70 [Zx 0] hp (qV ((0 : Int) : Rat)) from whole_call), rfl, ?_⟩
      simp (maxSteps := 2000000) only [s55, ↓Za, ↓Zo, ↓Zr, ↓Ze, ↓Zi, ↓Zs, ↓Zf, ↓Zl, ↓Zg, ↓Zc, ↓Zb, ↓vdn, vup, Zh, Zk, Zm, Zn, Zj, List.map_cons, List.map_nil, cond_true, cond_false, aop, Zv, Zq, Zp, ev, sput, Zt, Zz, Yb, unK, Zd, Zw, Nat.reduceBEq, Nat.reduceAdd, Int.reduceBEq, Int.reduceBNe, Int.reduceLT, Zu, Ya, tup, tyf, q0, litF, Yr, List.nil_append, List.append_nil, List.toList_toArray, List.cons_append]
      refine ⟨Wa c2 _, u, fun z hz => by simp only [load1 hz Vb], ?_⟩
      simp (maxSteps := 2000000) only [s55, ↓Za, ↓Zo, ↓Zr, ↓Ze, ↓Zi, ↓Zs, ↓Zf, ↓Zl, ↓Zg, ↓Zc, ↓Zb, ↓vdn, vup, Zh, Zk, Zm, Zn, Zj, List.map_cons, List.map_nil, cond_true, cond_false, aop, Zv, Zq, Zp, ev, sput, Zt, Zz, Yb, unK, Zd, Zw, Nat.reduceBEq, Nat.reduceAdd, Int.reduceBEq, Int.reduceBNe, Int.reduceLT, Zu, Ya, tup, tyf, huG.len, Yr, List.nil_append, List.append_nil, List.toList_toArray, List.cons_append]
      refine ⟨_, _, rep, (hFE 0).2 _ (Yp c2) id |>.trans c2, ?_⟩
      refine hN14 [(0, u), (1, v), (2, .pointer (some ⟨p2, 0, none⟩)), (3, .pointer (some ⟨p2 + 1, 0, none⟩)), (4, .slice none 0 0), (5, .int .i64 0), (6, w6), (8, .pointer (some ⟨p8, 0, none⟩)), (9, .pointer (some ⟨p8 + 1, 0, none⟩)), (10, .pointer (some ⟨p8 + 2, 0, none⟩)), (11, w), (14, .slice (some ⟨hp.length + 1, 0, none⟩) xs.length xs.length), (24, .bool false)] _ _ ?_ (by simp (maxSteps := 2000000) only [↓Za, ↓Zo, ↓Zr, ↓Ze, ↓Zi, ↓Zs, ↓Zf, ↓Zl, ↓Zg, ↓Zc, ↓Zb, ↓vdn, vup, Zh, Zk, Zm, Zn, Zj, List.map_cons, List.map_nil, cond_true, cond_false, aop, Zv, Zq, Zp, ev, sput, Zt, Zz, Yb, unK, Zd, Zw, Nat.reduceBEq, Nat.reduceAdd, Int.reduceBEq, Int.reduceBNe, Int.reduceLT, Zu, Ya, tup, tyf])
      clear hN14
      try clear N14
      have hwlen : ∀ {K : Value → Prop}, lenK w K = K (Zx k) := fun {K} => by
        rw [ow.int.len, iL_len, List.length_take, Nat.min_eq_left (by omega)]
      refine Ye fun Y hY => ?_
      refine Zy fun N15 hN15 => ?_
      simp (maxSteps := 2000000) only [s55, ↓Za, ↓Zo, ↓Zr, ↓Ze, ↓Zi, ↓Zs, ↓Zf, ↓Zl, ↓Zg, ↓Zc, ↓Zb, ↓vdn, vup, Zh, Zk, Zm, Zn, Zj, List.map_cons, List.map_nil, cond_true, cond_false, aop, Zv, Zq, Zp, ev, sput, Zt, Zz, Yb, unK, Zd, Zw, Nat.reduceBEq, Nat.reduceAdd, Int.reduceBEq, Int.reduceBNe, Int.reduceLT, Zu, Ya, tup, tyf, hwlen]
      refine hN15 [(0, u), (1, v), (2, .pointer (some ⟨p2, 0, none⟩)), (3, .pointer (some ⟨p2 + 1, 0, none⟩)), (4, .slice none 0 0), (5, .int .i64 0), (6, w6), (8, .pointer (some ⟨p8, 0, none⟩)), (9, .pointer (some ⟨p8 + 1, 0, none⟩)), (10, .pointer (some ⟨p8 + 2, 0, none⟩)), (11, w), (14, .slice (some ⟨hp.length + 1, 0, none⟩) xs.length xs.length), (24, .bool false), (83, w), (84, Zx (k : Nat)), (85, .int .i64 0)] _ _ ?_ (by simp (maxSteps := 2000000) only [↓Za, ↓Zo, ↓Zr, ↓Ze, ↓Zi, ↓Zs, ↓Zf, ↓Zl, ↓Zg, ↓Zc, ↓Zb, ↓vdn, vup, Zh, Zk, Zm, Zn, Zj, List.map_cons, List.map_nil, cond_true, cond_false, aop, Zv, Zq, Zp, ev, sput, Zt, Zz, Yb, unK, Zd, Zw, Nat.reduceBEq, Nat.reduceAdd, Int.reduceBEq, Int.reduceBNe, Int.reduceLT, Zu, Ya, tup, tyf])
      clear hN15
      try clear N15
      refine Yf ?_
      refine Yh fun Q hQ => ?_
      refine Yv (γ := Nat) (fun j => j ≤ k) (fun j => ([(0, u), (1, v), (2, .pointer (some ⟨p2, 0, none⟩)), (3, .pointer (some ⟨p2 + 1, 0, none⟩)), (4, .slice none 0 0), (5, .int .i64 0), (6, w6), (8, .pointer (some ⟨p8, 0, none⟩)), (9, .pointer (some ⟨p8 + 1, 0, none⟩)), (10, .pointer (some ⟨p8 + 2, 0, none⟩)), (11, w), (14, .slice (some ⟨hp.length + 1, 0, none⟩) xs.length xs.length), (24, .bool false), (83, w), (84, Zx (k : Nat)), (85, Zx (j : Nat))], F j)) (fun j => k - j) 0 (Nat.zero_le _) (by simp (maxSteps := 2000000) only [↓Za, ↓Zo, ↓Zr, ↓Ze, ↓Zi, ↓Zs, ↓Zf, ↓Zl, ↓Zg, ↓Zc, ↓Zb, ↓vdn, vup, Zh, Zk, Zm, Zn, Zj, List.map_cons, List.map_nil, cond_true, cond_false, aop, Zv, Zq, Zp, ev, sput, Zt, Zz, Yb, unK, Zd, Zw, Nat.reduceBEq, Nat.reduceAdd, Int.reduceBEq, Int.reduceBNe, Int.reduceLT, Zu, Ya, tup, tyf, Int.natCast_zero]) rfl ?_
      rintro j hj
      refine Yh fun Q2 hQ2 => ?_
      simp only [l55_2]
      by_cases hin : (j : Int) < k
      · have hj' : j < k := by omega
        have hx := ltL j (by omega)
        obtain ⟨x, hxe⟩ : ∃ x, L.getD j 0 = x := ⟨_, rfl⟩
        rw [hxe] at hx
        have hxy : x < ys.length := by omega
        have owF : IntSl (F j) w (iL (L.take k)) := Xv ow.int (hFE j)
        have hjl : j < (iL (L.take k)).length := by rw [iL_len, List.length_take]; omega
        have hgt : (L.take k).getD j 0 = x := by rw [← hxe, List.getD, List.getD, List.getElem?_take, if_pos hj']
        obtain ⟨p, hpe⟩ : ∃ p, xs.getD x 0 = p := ⟨_, rfl⟩
        obtain ⟨q, hqe⟩ : ∃ p, ys.getD x 0 = p := ⟨_, rfl⟩
        have pa := rc.a x hx
        have qb := rc.b x hxy
        rw [hpe] at pa
        rw [hqe] at qb
        have va : Xa prog 64 [Zx p, Zx 12] (F j) (qV (gVa xs x)) := by
          have := Wr (h := F j) (a := p) (b := 12) (by decide) (by omega) (by decide)
          rw [gVa, hpe]; exact this
        have vb : Xa prog 64 [Zx 1, Zx q] (F j) (qV (gVb ys x)) := by
          have := Wr (h := F j) (a := 1) (b := q) (by omega) (by decide) (by omega)
          rw [gVb, hqe]; exact this
        have rVa : Rp 12 p (gVa xs x) := by rw [gVa, hpe]; exact Rp.of_frac (N := 12) (by decide) p
        obtain ⟨b1, b2, b3⟩ := gVb_pos rc hpL hx
        obtain ⟨z, rVb⟩ := rp_of (by decide) b3
        have zb := rVb.bound (C := 1) (Rat.le_trans (by decide) (Rat.le_of_lt b1)) b2
        have rM := rK.mul rVb
        have Xz : (X * z).natAbs ≤ 332640 * 27720 := by rw [Int.natAbs_mul]; exact Nat.mul_le_mul nK (by omega)
        have rVa' := rVa.up (y * 27720) (by omega)
        rw [show 12 * (y * 27720) = 12 * y * 27720 by omega] at rVa'
        have py : (p * ((y * 27720 : Nat) : Int)).natAbs ≤ 12 * (27720 * 27720) := by rw [Int.natAbs_mul]; exact Nat.mul_le_mul (by omega) (by omega)
        have tm : Xa prog 72 [qV K, qV (gVb ys x)] (F j) (qV (K * gVb ys x)) := times_call (fits_of rK (by omega) (by omega)) (fits_of rVb (by omega) (by omega)) (fits_of rM (by omega) (by omega))
        have pl : Xa prog 71 [qV (gVa xs x), Zx (-1), qV (K * gVb ys x)] (F j) (qV (gVa xs x + ((-1 : Int) : Rat) * (K * gVb ys x))) := plus_call rVa' rM (by omega) (by omega)
        have hst := growL_step (xs := xs) (ys := ys) (K := K) hxe
        obtain ⟨T, hT⟩ : ∃ T, gVa xs x + ((-1 : Int) : Rat) * (K * gVb ys x) = T := ⟨_, rfl⟩
        rw [hT] at pl hst
        have hEF := hEp.trans (hFE j)
        have c2F := (hEF.2 _ (Yp d2) id).trans d2
        have c3F := (hEF.2 _ (Yp d3) id).trans d3
        have huF := Xv huG hEF
        have hvF := Xv hvG hEF
        have f10F := ((hFE j).2 _ (Yp f10) id).trans f10
        have hgl : (Vn xs ys L K j).length = xs.length := by simp [Vn]
        have psF := Wk (e := 26) (ro := false) (hF0 j)
        rw [hgl] at psF
        have hsto : ∀ {K' : Yc → Prop}, Xj prog (F j) 26 (.pointer (some ⟨hp.length + 1, x * 2, none⟩)) (.agg #[Zx T.num, Zx T.den]) K' = K' (F (j + 1)) := fun {K'} => by
          rw [storePC (hF0 j) shp_26 (by omega), ← hFs, ← hst]; rfl
        refine Zy fun N16 hN16 => ?_
        simp (maxSteps := 2000000) only [s55, ↓Za, ↓Zo, ↓Zr, ↓Ze, ↓Zi, ↓Zs, ↓Zf, ↓Zl, ↓Zg, ↓Zc, ↓Zb, ↓vdn, vup, Zh, Zk, Zm, Zn, Zj, List.map_cons, List.map_nil, cond_true, cond_false, aop, Zv, Zq, Zp, ev, sput, Zt, Zz, Yb, unK, Zd, Zw, Nat.reduceBEq, Nat.reduceAdd, Int.reduceBEq, Int.reduceBNe, Int.reduceLT, Zu, Ya, tup, tyf, hin]
        refine hN16 [(0, u), (1, v), (2, .pointer (some ⟨p2, 0, none⟩)), (3, .pointer (some ⟨p2 + 1, 0, none⟩)), (4, .slice none 0 0), (5, .int .i64 0), (6, w6), (8, .pointer (some ⟨p8, 0, none⟩)), (9, .pointer (some ⟨p8 + 1, 0, none⟩)), (10, .pointer (some ⟨p8 + 2, 0, none⟩)), (11, w), (14, .slice (some ⟨hp.length + 1, 0, none⟩) xs.length xs.length), (24, .bool false), (83, w), (84, Zx (k : Nat)), (85, Zx (j : Nat)), (86, .bool true)] _ _ ?_ (by simp (maxSteps := 2000000) only [↓Za, ↓Zo, ↓Zr, ↓Ze, ↓Zi, ↓Zs, ↓Zf, ↓Zl, ↓Zg, ↓Zc, ↓Zb, ↓vdn, vup, Zh, Zk, Zm, Zn, Zj, List.map_cons, List.map_nil, cond_true, cond_false, aop, Zv, Zq, Zp, ev, sput, Zt, Zz, Yb, unK, Zd, Zw, Nat.reduceBEq, Nat.reduceAdd, Int.reduceBEq, Int.reduceBNe, Int.reduceLT, Zu, Ya, tup, tyf])
        clear hN16
        try clear N16
        refine Zy fun N17 hN17 => ?_
        simp (maxSteps := 2000000) only [s55, ↓Za, ↓Zo, ↓Zr, ↓Ze, ↓Zi, ↓Zs, ↓Zf, ↓Zl, ↓Zg, ↓Zc, ↓Zb, ↓vdn, vup, Zh, Zk, Zm, Zn, Zj, List.map_cons, List.map_nil, cond_true, cond_false, aop, Zv, Zq, Zp, ev, sput, Zt, Zz, Yb, unK, Zd, Zw, Nat.reduceBEq, Nat.reduceAdd, Int.reduceBEq, Int.reduceBNe, Int.reduceLT, Zu, Ya, tup, tyf]
        refine hN17 [(0, u), (1, v), (2, .pointer (some ⟨p2, 0, none⟩)), (3, .pointer (some ⟨p2 + 1, 0, none⟩)), (4, .slice none 0 0), (5, .int .i64 0), (6, w6), (8, .pointer (some ⟨p8, 0, none⟩)), (9, .pointer (some ⟨p8 + 1, 0, none⟩)), (10, .pointer (some ⟨p8 + 2, 0, none⟩)), (11, w), (14, .slice (some ⟨hp.length + 1, 0, none⟩) xs.length xs.length), (24, .bool false), (83, w), (84, Zx (k : Nat)), (85, Zx (j : Nat))] _ _ ?_ (by simp (maxSteps := 2000000) only [↓Za, ↓Zo, ↓Zr, ↓Ze, ↓Zi, ↓Zs, ↓Zf, ↓Zl, ↓Zg, ↓Zc, ↓Zb, ↓vdn, vup, Zh, Zk, Zm, Zn, Zj, List.map_cons, List.map_nil, cond_true, cond_false, aop, Zv, Zq, Zp, ev, sput, Zt, Zz, Yb, unK, Zd, Zw, Nat.reduceBEq, Nat.reduceAdd, Int.reduceBEq, Int.reduceBNe, Int.reduceLT, Zu, Ya, tup, tyf])
        clear hN17
        try clear N17
        refine Ye fun B hB => ?_
        refine Yf ?_
        refine Zy fun N18 hN18 => ?_
        simp (maxSteps := 2000000) only [s55, ↓Za, ↓Zo, ↓Zr, ↓Ze, ↓Zi, ↓Zs, ↓Zf, ↓Zl, ↓Zg, ↓Zc, ↓Zb, ↓vdn, vup, Zh, Zk, Zm, Zn, Zj, List.map_cons, List.map_nil, cond_true, cond_false, aop, Zv, Zq, Zp, ev, sput, Zt, Zz, Yb, unK, Zd, Zw, Nat.reduceBEq, Nat.reduceAdd, Int.reduceBEq, Int.reduceBNe, Int.reduceLT, Zu, Ya, tup, tyf, owF.idx Xu Xp hjl, owF.load Xl hjl, iL_get, hgt]
        refine hN18 [(0, u), (1, v), (2, .pointer (some ⟨p2, 0, none⟩)), (3, .pointer (some ⟨p2 + 1, 0, none⟩)), (4, .slice none 0 0), (5, .int .i64 0), (6, w6), (8, .pointer (some ⟨p8, 0, none⟩)), (9, .pointer (some ⟨p8 + 1, 0, none⟩)), (10, .pointer (some ⟨p8 + 2, 0, none⟩)), (11, w), (14, .slice (some ⟨hp.length + 1, 0, none⟩) xs.length xs.length), (16, Zx (x : Nat)), (24, .bool false), (83, w), (84, Zx (k : Nat)), (85, Zx (j : Nat))] _ _ ?_ (by simp (maxSteps := 2000000) only [↓Za, ↓Zo, ↓Zr, ↓Ze, ↓Zi, ↓Zs, ↓Zf, ↓Zl, ↓Zg, ↓Zc, ↓Zb, ↓vdn, vup, Zh, Zk, Zm, Zn, Zj, List.map_cons, List.map_nil, cond_true, cond_false, aop, Zv, Zq, Zp, ev, sput, Zt, Zz, Yb, unK, Zd, Zw, Nat.reduceBEq, Nat.reduceAdd, Int.reduceBEq, Int.reduceBNe, Int.reduceLT, Zu, Ya, tup, tyf])
        clear hN18
        try clear N18
        refine Yd ?_
        simp only [q55_26]
        refine Xd [(6, 1), (12, 1), (13, 1), (14, 1)] (by kernel_rfl) (by kernel_rfl) (by kernel_rfl) (by kernel_rfl) ?_
        refine Xn 7 rfl fun N1 hN1 => ?_
        simp (maxSteps := 2000000) only [s55, ↓Za, ↓Zo, ↓Zr, ↓Ze, ↓Zi, ↓Zs, ↓Zf, ↓Zl, ↓Zg, ↓Zc, ↓Zb, ↓vdn, vup, Zh, Zk, Zm, Zn, Zj, List.map_cons, List.map_nil, cond_true, cond_false, aop, Zv, Zq, Zp, ev, sput, Zt, Zz, Yb, unK, Zd, Zw, Nat.reduceBEq, Nat.reduceAdd, Int.reduceBEq, Int.reduceBNe, Int.reduceLT, Zu, Ya, tup, tyf, List.take_succ_cons, List.take_zero, load1 c2F Vb, huF.idx Xu Xp hx, huF.load Xl hx, hpe, Yr, List.nil_append, List.append_nil, List.toList_toArray, List.cons_append]
        refine ⟨_, _, va, rfl, ?_⟩
        refine hN1 _ _ ?_
        clear hN1 N1
        refine Xn 6 rfl fun N1 hN1 => ?_
        simp (maxSteps := 2000000) only [s55, ↓Za, ↓Zo, ↓Zr, ↓Ze, ↓Zi, ↓Zs, ↓Zf, ↓Zl, ↓Zg, ↓Zc, ↓Zb, ↓vdn, vup, Zh, Zk, Zm, Zn, Zj, List.map_cons, List.map_nil, cond_true, cond_false, aop, Zv, Zq, Zp, ev, sput, Zt, Zz, Yb, unK, Zd, Zw, Nat.reduceBEq, Nat.reduceAdd, Int.reduceBEq, Int.reduceBNe, Int.reduceLT, Zu, Ya, tup, tyf, List.drop_succ_cons, List.drop_zero, List.take_succ_cons, List.take_zero, Wz f10F, load1 c3F Vb, hvF.idx Xu Xp hxy, hvF.load Xl hxy, hqe, Yr, List.nil_append, List.append_nil, List.toList_toArray, List.cons_append]
        refine ⟨_, _, vb, rfl, ?_⟩
        refine hN1 _ _ ?_
        clear hN1 N1
        refine Xn 1 rfl fun N1 hN1 => ?_
        simp (maxSteps := 2000000) only [s55, ↓Za, ↓Zo, ↓Zr, ↓Ze, ↓Zi, ↓Zs, ↓Zf, ↓Zl, ↓Zg, ↓Zc, ↓Zb, ↓vdn, vup, Zh, Zk, Zm, Zn, Zj, List.map_cons, List.map_nil, cond_true, cond_false, aop, Zv, Zq, Zp, ev, sput, Zt, Zz, Yb, unK, Zd, Zw, Nat.reduceBEq, Nat.reduceAdd, Int.reduceBEq, Int.reduceBNe, Int.reduceLT, Zu, Ya, tup, tyf, List.drop_succ_cons, List.drop_zero, List.take_succ_cons, List.take_zero, Yr, List.nil_append, List.append_nil, List.toList_toArray, List.cons_append]
        refine ⟨_, _, tm, rfl, ?_⟩
        refine hN1 _ _ ?_
        clear hN1 N1
        refine Xn 1 rfl fun N1 hN1 => ?_
        simp (maxSteps := 2000000) only [s55, ↓Za, ↓Zo, ↓Zr, ↓Ze, ↓Zi, ↓Zs, ↓Zf, ↓Zl, ↓Zg, ↓Zc, ↓Zb, ↓vdn, vup, Zh, Zk, Zm, Zn, Zj, List.map_cons, List.map_nil, cond_true, cond_false, aop, Zv, Zq, Zp, ev, sput, Zt, Zz, Yb, unK, Zd, Zw, Nat.reduceBEq, Nat.reduceAdd, Int.reduceBEq, Int.reduceBNe, Int.reduceLT, Zu, Ya, tup, tyf, List.drop_succ_cons, List.drop_zero, List.take_succ_cons, List.take_zero, Yr, List.nil_append, List.append_nil, List.toList_toArray, List.cons_append]
        refine ⟨_, _, pl, rfl, ?_⟩
        refine hN1 _ _ ?_
        clear hN1 N1
        simp (maxSteps := 2000000) only [s55, ↓Za, ↓Zo, ↓Zr, ↓Ze, ↓Zi, ↓Zs, ↓Zf, ↓Zl, ↓Zg, ↓Zc, ↓Zb, ↓vdn, vup, Zh, Zk, Zm, Zn, Zj, List.map_cons, List.map_nil, cond_true, cond_false, aop, Zv, Zq, Zp, ev, sput, Zt, Zz, Yb, unK, Zd, Zw, Nat.reduceBEq, Nat.reduceAdd, Int.reduceBEq, Int.reduceBNe, Int.reduceLT, Zu, Ya, tup, tyf, List.drop_succ_cons, List.drop_zero, qV, frV, psF.idx el_47 Vm (show x < (Vn xs ys L K j).length by omega), elemP_pair, hsto]
        refine hB [(0, u), (1, v), (2, .pointer (some ⟨p2, 0, none⟩)), (3, .pointer (some ⟨p2 + 1, 0, none⟩)), (4, .slice none 0 0), (5, .int .i64 0), (6, w6), (8, .pointer (some ⟨p8, 0, none⟩)), (9, .pointer (some ⟨p8 + 1, 0, none⟩)), (10, .pointer (some ⟨p8 + 2, 0, none⟩)), (11, w), (14, .slice (some ⟨hp.length + 1, 0, none⟩) xs.length xs.length), (24, .bool false), (83, w), (84, Zx (k : Nat)), (85, Zx (j : Nat))] _ _ ?_ (by simp (maxSteps := 2000000) only [↓Za, ↓Zo, ↓Zr, ↓Ze, ↓Zi, ↓Zs, ↓Zf, ↓Zl, ↓Zg, ↓Zc, ↓Zb, ↓vdn, vup, Zh, Zk, Zm, Zn, Zj, List.map_cons, List.map_nil, cond_true, cond_false, aop, Zv, Zq, Zp, ev, sput, Zt, Zz, Yb, unK, Zd, Zw, Nat.reduceBEq, Nat.reduceAdd, Int.reduceBEq, Int.reduceBNe, Int.reduceLT, Zu, Ya, tup, tyf])
        clear hB
        try clear B
        refine Yd ?_
        simp (maxSteps := 2000000) only [s55, ↓Za, ↓Zo, ↓Zr, ↓Ze, ↓Zi, ↓Zs, ↓Zf, ↓Zl, ↓Zg, ↓Zc, ↓Zb, ↓vdn, vup, Zh, Zk, Zm, Zn, Zj, List.map_cons, List.map_nil, cond_true, cond_false, aop, Zv, Zq, Zp, ev, sput, Zt, Zz, Yb, unK, Zd, Zw, Nat.reduceBEq, Nat.reduceAdd, Int.reduceBEq, Int.reduceBNe, Int.reduceLT, Zu, Ya, tup, tyf, add1 (show j < 9223372036854775807 by omega)]
        exact hQ2 _ _ _ ⟨j + 1, hj', by omega, by simp (maxSteps := 2000000) only [↓Za, ↓Zo, ↓Zr, ↓Ze, ↓Zi, ↓Zs, ↓Zf, ↓Zl, ↓Zg, ↓Zc, ↓Zb, ↓vdn, vup, Zh, Zk, Zm, Zn, Zj, List.map_cons, List.map_nil, cond_true, cond_false, aop, Zv, Zq, Zp, ev, sput, Zt, Zz, Yb, unK, Zd, Zw, Nat.reduceBEq, Nat.reduceAdd, Int.reduceBEq, Int.reduceBNe, Int.reduceLT, Zu, Ya, tup, tyf], rfl⟩
      · obtain rfl : j = k := by omega
        refine Zy fun N19 hN19 => ?_
        simp (maxSteps := 2000000) only [s55, ↓Za, ↓Zo, ↓Zr, ↓Ze, ↓Zi, ↓Zs, ↓Zf, ↓Zl, ↓Zg, ↓Zc, ↓Zb, ↓vdn, vup, Zh, Zk, Zm, Zn, Zj, List.map_cons, List.map_nil, cond_true, cond_false, aop, Zv, Zq, Zp, ev, sput, Zt, Zz, Yb, unK, Zd, Zw, Nat.reduceBEq, Nat.reduceAdd, Int.reduceBEq, Int.reduceBNe, Int.reduceLT, Zu, Ya, tup, tyf, hin]
        refine hN19 [(0, u), (1, v), (2, .pointer (some ⟨p2, 0, none⟩)), (3, .pointer (some ⟨p2 + 1, 0, none⟩)), (4, .slice none 0 0), (5, .int .i64 0), (6, w6), (8, .pointer (some ⟨p8, 0, none⟩)), (9, .pointer (some ⟨p8 + 1, 0, none⟩)), (10, .pointer (some ⟨p8 + 2, 0, none⟩)), (11, w), (14, .slice (some ⟨hp.length + 1, 0, none⟩) xs.length xs.length), (24, .bool false), (83, w), (84, Zx (j : Nat)), (85, Zx (j : Nat)), (86, .bool false)] _ _ ?_ (by simp (maxSteps := 2000000) only [↓Za, ↓Zo, ↓Zr, ↓Ze, ↓Zi, ↓Zs, ↓Zf, ↓Zl, ↓Zg, ↓Zc, ↓Zb, ↓vdn, vup, Zh, Zk, Zm, Zn, Zj, List.map_cons, List.map_nil, cond_true, cond_false, aop, Zv, Zq, Zp, ev, sput, Zt, Zz, Yb, unK, Zd, Zw, Nat.reduceBEq, Nat.reduceAdd, Int.reduceBEq, Int.reduceBNe, Int.reduceLT, Zu, Ya, tup, tyf])
        clear hN19
        try clear N19
        refine Zy fun N20 hN20 => ?_
        simp (maxSteps := 2000000) only [s55, ↓Za, ↓Zo, ↓Zr, ↓Ze, ↓Zi, ↓Zs, ↓Zf, ↓Zl, ↓Zg, ↓Zc, ↓Zb, ↓vdn, vup, Zh, Zk, Zm, Zn, Zj, List.map_cons, List.map_nil, cond_true, cond_false, aop, Zv, Zq, Zp, ev, sput, Zt, Zz, Yb, unK, Zd, Zw, Nat.reduceBEq, Nat.reduceAdd, Int.reduceBEq, Int.reduceBNe, Int.reduceLT, Zu, Ya, tup, tyf]
        refine hQ2 _ _ _ (hQ _ _ _ ?_)
        simp (maxSteps := 2000000) only [s55, ↓Za, ↓Zo, ↓Zr, ↓Ze, ↓Zi, ↓Zs, ↓Zf, ↓Zl, ↓Zg, ↓Zc, ↓Zb, ↓vdn, vup, Zh, Zk, Zm, Zn, Zj, List.map_cons, List.map_nil, cond_true, cond_false, aop, Zv, Zq, Zp, ev, sput, Zt, Zz, Yb, unK, Zd, Zw, Nat.reduceBEq, Nat.reduceAdd, Int.reduceBEq, Int.reduceBNe, Int.reduceLT, Zu, Ya, tup, tyf, if_true]
        refine hY [(0, u), (1, v), (2, .pointer (some ⟨p2, 0, none⟩)), (3, .pointer (some ⟨p2 + 1, 0, none⟩)), (4, .slice none 0 0), (5, .int .i64 0), (6, w6), (8, .pointer (some ⟨p8, 0, none⟩)), (9, .pointer (some ⟨p8 + 1, 0, none⟩)), (10, .pointer (some ⟨p8 + 2, 0, none⟩)), (11, w), (14, .slice (some ⟨hp.length + 1, 0, none⟩) xs.length xs.length), (24, .bool false), (86, .bool false)] _ _ ?_ (by simp (maxSteps := 2000000) only [↓Za, ↓Zo, ↓Zr, ↓Ze, ↓Zi, ↓Zs, ↓Zf, ↓Zl, ↓Zg, ↓Zc, ↓Zb, ↓vdn, vup, Zh, Zk, Zm, Zn, Zj, List.map_cons, List.map_nil, cond_true, cond_false, aop, Zv, Zq, Zp, ev, sput, Zt, Zz, Yb, unK, Zd, Zw, Nat.reduceBEq, Nat.reduceAdd, Int.reduceBEq, Int.reduceBNe, Int.reduceLT, Zu, Ya, tup, tyf])
        clear hY
        try clear Y
        have psF := Wk (e := 26) (ro := false) (hF0 j)
        have hgl : (Vn xs ys L K j).length = xs.length := by simp [Vn]
        rw [hgl] at psF
        refine Yd ?_
        simp (maxSteps := 2000000) only [s55, ↓Za, ↓Zo, ↓Zr, ↓Ze, ↓Zi, ↓Zs, ↓Zf, ↓Zl, ↓Zg, ↓Zc, ↓Zb, ↓vdn, vup, Zh, Zk, Zm, Zn, Zj, List.map_cons, List.map_nil, cond_true, cond_false, aop, Zv, Zq, Zp, ev, sput, Zt, Zz, Yb, unK, Zd, Zw, Nat.reduceBEq, Nat.reduceAdd, Int.reduceBEq, Int.reduceBNe, Int.reduceLT, Zu, Ya, tup, tyf]
        exact ⟨(hE0.trans hEp).trans (hFE j), fun _ => ⟨L, j, _, gp, rfl, by rw [hK]; exact psF⟩, fun hc => by rw [hr] at hc; cases hc⟩
    refine Zy fun N21 hN21 => ?_
    simp (maxSteps := 2000000) only [s55, ↓Za, ↓Zo, ↓Zr, ↓Ze, ↓Zi, ↓Zs, ↓Zf, ↓Zl, ↓Zg, ↓Zc, ↓Zb, ↓vdn, vup, Zh, Zk, Zm, Zn, Zj, List.map_cons, List.map_nil, cond_true, cond_false, aop, Zv, Zq, Zp, ev, sput, Zt, Zz, Yb, unK, Zd, Zw, Nat.reduceBEq, Nat.reduceAdd, Int.reduceBEq, Int.reduceBNe, Int.reduceLT, Zu, Ya, tup, tyf, hlen6]
    refine hN21 [(0, u), (1, v), (2, .pointer (some ⟨p2, 0, none⟩)), (3, .pointer (some ⟨p2 + 1, 0, none⟩)), (4, .slice none 0 0), (5, .int .i64 0), (6, w6), (8, .pointer (some ⟨p8, 0, none⟩)), (9, .pointer (some ⟨p8 + 1, 0, none⟩)), (10, .pointer (some ⟨p8 + 2, 0, none⟩)), (11, .slice none 0 0), (24, .bool false), (37, w6), (38, Zx xs.length), (39, .int .i64 0)] _ _ ?_ (by simp (maxSteps := 2000000) only [↓Za, ↓Zo, ↓Zr, ↓Ze, ↓Zi, ↓Zs, ↓Zf, ↓Zl, ↓Zg, ↓Zc, ↓Zb, ↓vdn, vup, Zh, Zk, Zm, Zn, Zj, List.map_cons, List.map_nil, cond_true, cond_false, aop, Zv, Zq, Zp, ev, sput, Zt, Zz, Yb, unK, Zd, Zw, Nat.reduceBEq, Nat.reduceAdd, Int.reduceBEq, Int.reduceBNe, Int.reduceLT, Zu, Ya, tup, tyf])
    clear hN21
    try clear N21
    refine Yf ?_
    refine Yh fun Q hQ => ?_
    refine Yv (γ := Nat × Value × Yc) (fun s => s.1 ≤ xs.length ∧ (∀ j, j < s.1 → gK xs ys L j < gVv xs ys (L.getD j 0)) ∧ OwnSl 3 s.2.2 s.2.1 (iL (L.take s.1)) ∧ Ext (fun _ => False) G s.2.2 ∧ p8 + 3 ≤ s.2.2.length ∧ s.2.2[p8]? = some (fC (gP xs L s.1).num (gP xs L s.1).den) ∧ s.2.2[p8 + 1]? = some (fC (gQ ys L s.1).num (gQ ys L s.1).den) ∧ s.2.2[p8 + 2]? = some (fC (gK xs ys L s.1).num (gK xs ys L s.1).den) ∧ ∀ b, Yq s.2.1 = some b → p8 + 3 ≤ b)
      (fun s => ([(0, u), (1, v), (2, .pointer (some ⟨p2, 0, none⟩)), (3, .pointer (some ⟨p2 + 1, 0, none⟩)), (4, .slice none 0 0), (5, .int .i64 0), (6, w6), (8, .pointer (some ⟨p8, 0, none⟩)), (9, .pointer (some ⟨p8 + 1, 0, none⟩)), (10, .pointer (some ⟨p8 + 2, 0, none⟩)), (11, s.2.1), (24, .bool false), (37, w6), (38, Zx xs.length), (39, Zx (s.1 : Nat))], s.2.2)) (fun s => xs.length - s.1) (0, .slice none 0 0, G2) ⟨Nat.zero_le _, fun j hj => by omega, .inl ⟨rfl, rfl⟩, hEG2, by simp only; omega, by simp only; rw [gP0, n1, n2]; exact e8, by simp only; rw [gQ0, n1, n2]; exact e9, by simp only; rw [gK0, n1, n2]; exact e10, fun b hb => by cases hb⟩ (by simp (maxSteps := 2000000) only [↓Za, ↓Zo, ↓Zr, ↓Ze, ↓Zi, ↓Zs, ↓Zf, ↓Zl, ↓Zg, ↓Zc, ↓Zb, ↓vdn, vup, Zh, Zk, Zm, Zn, Zj, List.map_cons, List.map_nil, cond_true, cond_false, aop, Zv, Zq, Zp, ev, sput, Zt, Zz, Yb, unK, Zd, Zw, Nat.reduceBEq, Nat.reduceAdd, Int.reduceBEq, Int.reduceBNe, Int.reduceLT, Zu, Ya, tup, tyf, Int.natCast_zero]) rfl ?_
    rintro ⟨k, w, hp⟩ ⟨hk, hco, ow, hEp, hl3, f8, f9, f10, hbw⟩
    simp only at hk hco ow hEp hl3 f8 f9 f10 hbw
    refine Yh fun Q2 hQ2 => ?_
    simp only [l55_1]
    by_cases hin : (k : Int) < xs.length
    · have hk' : k < xs.length := by omega
      have hx := ltL k hk'
      have hxy : L.getD k 0 < ys.length := by omega
      obtain ⟨x, hxe⟩ : ∃ x, L.getD k 0 = x := ⟨_, rfl⟩
      rw [hxe] at hx hxy
      have o6p := Xv o6 hEp
      have hup := Xv huG hEp
      have hvp := Xv hvG hEp
      have c2 := (hEp.2 _ (Yp d2) id).trans d2
      have c3 := (hEp.2 _ (Yp d3) id).trans d3
      have hk6 : k < (iL L).length := by rw [iL_len]; omega
      obtain ⟨p, hpe⟩ : ∃ p, xs.getD x 0 = p := ⟨_, rfl⟩
      obtain ⟨q, hqe⟩ : ∃ p, ys.getD x 0 = p := ⟨_, rfl⟩
      have pa := rc.a x hx
      have qb := rc.b x hxy
      rw [hpe] at pa
      rw [hqe] at qb
      have pq : (p * q).natAbs ≤ 144 := by rw [Int.natAbs_mul]; exact Nat.mul_le_mul (show p.natAbs ≤ 12 by omega) (show q.natAbs ≤ 12 by omega)
      have m1 : mulV .i64 p q = p * q := mulN (by omega)
      have fv : ∀ h', Xa prog 64 [Zx (p * q), Zx 12] h' (qV (gVv xs ys x)) := fun h' => by
        have := Wr (h := h') (a := p * q) (b := 12) (by decide) (by omega) (by decide)
        rw [gVv, hpe, hqe]; exact this
      obtain ⟨y, y0, y1, rQ, rK⟩ := gK_rp rc hpL hk hco
      have sb := gSum_le rc hpL k hk
      have rV : Rp (12 * y) (p * q * y) (gVv xs ys x) := by
        have := (Rp.of_frac (N := 12) (by decide) (p * q)).up y y0
        rw [gVv, hpe, hqe]; exact this
      have pqy : (p * q * (y : Int)).natAbs ≤ 144 * 27720 := by rw [Int.natAbs_mul]; exact Nat.mul_le_mul pq (by omega)
      have lc : ∀ h', Xa prog 62 [qV (gK xs ys L k), qV (gVv xs ys x)] h' (.bool (decide (gK xs ys L k < gVv xs ys x))) := fun h' => less_call rK rV (by omega) (by omega)
      refine Zy fun N22 hN22 => ?_
      simp (maxSteps := 2000000) only [s55, ↓Za, ↓Zo, ↓Zr, ↓Ze, ↓Zi, ↓Zs, ↓Zf, ↓Zl, ↓Zg, ↓Zc, ↓Zb, ↓vdn, vup, Zh, Zk, Zm, Zn, Zj, List.map_cons, List.map_nil, cond_true, cond_false, aop, Zv, Zq, Zp, ev, sput, Zt, Zz, Yb, unK, Zd, Zw, Nat.reduceBEq, Nat.reduceAdd, Int.reduceBEq, Int.reduceBNe, Int.reduceLT, Zu, Ya, tup, tyf, hin]
      refine hN22 [(0, u), (1, v), (2, .pointer (some ⟨p2, 0, none⟩)), (3, .pointer (some ⟨p2 + 1, 0, none⟩)), (4, .slice none 0 0), (5, .int .i64 0), (6, w6), (8, .pointer (some ⟨p8, 0, none⟩)), (9, .pointer (some ⟨p8 + 1, 0, none⟩)), (10, .pointer (some ⟨p8 + 2, 0, none⟩)), (11, w), (24, .bool false), (37, w6), (38, Zx xs.length), (39, Zx (k : Nat)), (40, .bool true)] _ _ ?_ (by simp (maxSteps := 2000000) only [↓Za, ↓Zo, ↓Zr, ↓Ze, ↓Zi, ↓Zs, ↓Zf, ↓Zl, ↓Zg, ↓Zc, ↓Zb, ↓vdn, vup, Zh, Zk, Zm, Zn, Zj, List.map_cons, List.map_nil, cond_true, cond_false, aop, Zv, Zq, Zp, ev, sput, Zt, Zz, Yb, unK, Zd, Zw, Nat.reduceBEq, Nat.reduceAdd, Int.reduceBEq, Int.reduceBNe, Int.reduceLT, Zu, Ya, tup, tyf])
      clear hN22
      try clear N22
      refine Zy fun N23 hN23 => ?_
      simp (maxSteps := 2000000) only [s55, ↓Za, ↓Zo, ↓Zr, ↓Ze, ↓Zi, ↓Zs, ↓Zf, ↓Zl, ↓Zg, ↓Zc, ↓Zb, ↓vdn, vup, Zh, Zk, Zm, Zn, Zj, List.map_cons, List.map_nil, cond_true, cond_false, aop, Zv, Zq, Zp, ev, sput, Zt, Zz, Yb, unK, Zd, Zw, Nat.reduceBEq, Nat.reduceAdd, Int.reduceBEq, Int.reduceBNe, Int.reduceLT, Zu, Ya, tup, tyf]
      refine hN23 [(0, u), (1, v), (2, .pointer (some ⟨p2, 0, none⟩)), (3, .pointer (some ⟨p2 + 1, 0, none⟩)), (4, .slice none 0 0), (5, .int .i64 0), (6, w6), (8, .pointer (some ⟨p8, 0, none⟩)), (9, .pointer (some ⟨p8 + 1, 0, none⟩)), (10, .pointer (some ⟨p8 + 2, 0, none⟩)), (11, w), (24, .bool false), (37, w6), (38, Zx xs.length), (39, Zx (k : Nat))] _ _ ?_ (by simp (maxSteps := 2000000) only [↓Za, ↓Zo, ↓Zr, ↓Ze, ↓Zi, ↓Zs, ↓Zf, ↓Zl, ↓Zg, ↓Zc, ↓Zb, ↓vdn, vup, Zh, Zk, Zm, Zn, Zj, List.map_cons, List.map_nil, cond_true, cond_false, aop, Zv, Zq, Zp, ev, sput, Zt, Zz, Yb, unK, Zd, Zw, Nat.reduceBEq, Nat.reduceAdd, Int.reduceBEq, Int.reduceBNe, Int.reduceLT, Zu, Ya, tup, tyf])
      clear hN23
      try clear N23
      refine Ye fun B hB => ?_
      refine Yf ?_
      refine Zy fun N24 hN24 => ?_
      simp (maxSteps := 2000000) only [s55, ↓Za, ↓Zo, ↓Zr, ↓Ze, ↓Zi, ↓Zs, ↓Zf, ↓Zl, ↓Zg, ↓Zc, ↓Zb, ↓vdn, vup, Zh, Zk, Zm, Zn, Zj, List.map_cons, List.map_nil, cond_true, cond_false, aop, Zv, Zq, Zp, ev, sput, Zt, Zz, Yb, unK, Zd, Zw, Nat.reduceBEq, Nat.reduceAdd, Int.reduceBEq, Int.reduceBNe, Int.reduceLT, Zu, Ya, tup, tyf, o6p.idx Xu Xp hk6, o6p.load Xl hk6, iL_get, hxe]
      refine hN24 [(0, u), (1, v), (2, .pointer (some ⟨p2, 0, none⟩)), (3, .pointer (some ⟨p2 + 1, 0, none⟩)), (4, .slice none 0 0), (5, .int .i64 0), (6, w6), (8, .pointer (some ⟨p8, 0, none⟩)), (9, .pointer (some ⟨p8 + 1, 0, none⟩)), (10, .pointer (some ⟨p8 + 2, 0, none⟩)), (11, w), (13, Zx (x : Nat)), (24, .bool false), (37, w6), (38, Zx xs.length), (39, Zx (k : Nat))] _ _ ?_ (by simp (maxSteps := 2000000) only [↓Za, ↓Zo, ↓Zr, ↓Ze, ↓Zi, ↓Zs, ↓Zf, ↓Zl, ↓Zg, ↓Zc, ↓Zb, ↓vdn, vup, Zh, Zk, Zm, Zn, Zj, List.map_cons, List.map_nil, cond_true, cond_false, aop, Zv, Zq, Zp, ev, sput, Zt, Zz, Yb, unK, Zd, Zw, Nat.reduceBEq, Nat.reduceAdd, Int.reduceBEq, Int.reduceBNe, Int.reduceLT, Zu, Ya, tup, tyf])
      clear hN24
      try clear N24
      refine Ye fun C hC => ?_
      refine Zy fun N25 hN25 => ?_
      simp only [q55_16]
      refine Xd [(10, 1), (11, 1)] (by kernel_rfl) (by kernel_rfl) (by kernel_rfl) (by kernel_rfl) ?_
      refine Xn 11 rfl fun N1 hN1 => ?_
      simp (maxSteps := 2000000) only [s55, ↓Za, ↓Zo, ↓Zr, ↓Ze, ↓Zi, ↓Zs, ↓Zf, ↓Zl, ↓Zg, ↓Zc, ↓Zb, ↓vdn, vup, Zh, Zk, Zm, Zn, Zj, List.map_cons, List.map_nil, cond_true, cond_false, aop, Zv, Zq, Zp, ev, sput, Zt, Zz, Yb, unK, Zd, Zw, Nat.reduceBEq, Nat.reduceAdd, Int.reduceBEq, Int.reduceBNe, Int.reduceLT, Zu, Ya, tup, tyf, List.take_succ_cons, List.take_zero, Wz f10, load1 c2 Vb, load1 c3 Vb, hup.idx Xu Xp hx, hup.load Xl hx, hvp.idx Xu Xp hxy, hvp.load Xl hxy, hpe, hqe, m1, Yr, List.nil_append, List.append_nil, List.toList_toArray, List.cons_append]
      refine ⟨_, _, fv hp, rfl, ?_⟩
      refine hN1 _ _ ?_
      clear hN1 N1
      refine Xn 1 rfl fun N1 hN1 => ?_
      simp (maxSteps := 2000000) only [s55, ↓Za, ↓Zo, ↓Zr, ↓Ze, ↓Zi, ↓Zs, ↓Zf, ↓Zl, ↓Zg, ↓Zc, ↓Zb, ↓vdn, vup, Zh, Zk, Zm, Zn, Zj, List.map_cons, List.map_nil, cond_true, cond_false, aop, Zv, Zq, Zp, ev, sput, Zt, Zz, Yb, unK, Zd, Zw, Nat.reduceBEq, Nat.reduceAdd, Int.reduceBEq, Int.reduceBNe, Int.reduceLT, Zu, Ya, tup, tyf, List.drop_succ_cons, List.drop_zero, List.take_succ_cons, List.take_zero, Yr, List.nil_append, List.append_nil, List.toList_toArray, List.cons_append]
      refine ⟨_, _, lc hp, rfl, ?_⟩
      refine hN1 _ _ ?_
      clear hN1 N1
      simp (maxSteps := 2000000) only [s55, ↓Za, ↓Zo, ↓Zr, ↓Ze, ↓Zi, ↓Zs, ↓Zf, ↓Zl, ↓Zg, ↓Zc, ↓Zb, ↓vdn, vup, Zh, Zk, Zm, Zn, Zj, List.map_cons, List.map_nil, cond_true, cond_false, aop, Zv, Zq, Zp, ev, sput, Zt, Zz, Yb, unK, Zd, Zw, Nat.reduceBEq, Nat.reduceAdd, Int.reduceBEq, Int.reduceBNe, Int.reduceLT, Zu, Ya, tup, tyf, List.drop_succ_cons, List.drop_zero]
      refine hN25 [(0, u), (1, v), (2, .pointer (some ⟨p2, 0, none⟩)), (3, .pointer (some ⟨p2 + 1, 0, none⟩)), (4, .slice none 0 0), (5, .int .i64 0), (6, w6), (8, .pointer (some ⟨p8, 0, none⟩)), (9, .pointer (some ⟨p8 + 1, 0, none⟩)), (10, .pointer (some ⟨p8 + 2, 0, none⟩)), (11, w), (13, Zx (x : Nat)), (24, .bool false), (37, w6), (38, Zx xs.length), (39, Zx (k : Nat)), (55, .bool (!decide (gK xs ys L k < gVv xs ys x)))] _ _ ?_ (by simp (maxSteps := 2000000) only [↓Za, ↓Zo, ↓Zr, ↓Ze, ↓Zi, ↓Zs, ↓Zf, ↓Zl, ↓Zg, ↓Zc, ↓Zb, ↓vdn, vup, Zh, Zk, Zm, Zn, Zj, List.map_cons, List.map_nil, cond_true, cond_false, aop, Zv, Zq, Zp, ev, sput, Zt, Zz, Yb, unK, Zd, Zw, Nat.reduceBEq, Nat.reduceAdd, Int.reduceBEq, Int.reduceBNe, Int.reduceLT, Zu, Ya, tup, tyf])
      clear hN25
      try clear N25
      by_cases hcd : gK xs ys L k < gVv xs ys x
      case neg =>
        rw [decide_eq_false hcd]
        refine Wc rfl ?_
        refine Yd ?_
        simp (maxSteps := 2000000) only [s55, ↓Za, ↓Zo, ↓Zr, ↓Ze, ↓Zi, ↓Zs, ↓Zf, ↓Zl, ↓Zg, ↓Zc, ↓Zb, ↓vdn, vup, Zh, Zk, Zm, Zn, Zj, List.map_cons, List.map_nil, cond_true, cond_false, aop, Zv, Zq, Zp, ev, sput, Zt, Zz, Yb, unK, Zd, Zw, Nat.reduceBEq, Nat.reduceAdd, Int.reduceBEq, Int.reduceBNe, Int.reduceLT, Zu, Ya, tup, tyf]
        refine hQ2 _ _ _ (hQ _ _ _ ?_)
        simp (maxSteps := 2000000) only [s55, ↓Za, ↓Zo, ↓Zr, ↓Ze, ↓Zi, ↓Zs, ↓Zf, ↓Zl, ↓Zg, ↓Zc, ↓Zb, ↓vdn, vup, Zh, Zk, Zm, Zn, Zj, List.map_cons, List.map_nil, cond_true, cond_false, aop, Zv, Zq, Zp, ev, sput, Zt, Zz, Yb, unK, Zd, Zw, Nat.reduceBEq, Nat.reduceAdd, Int.reduceBEq, Int.reduceBNe, Int.reduceLT, Zu, Ya, tup, tyf, if_true]
        exact fin k w hp ⟨hpL, hsL, hk, hco, .inr (by rw [hxe]; exact hcd)⟩ ow hEp hl3 f10 hbw _ (by simp (maxSteps := 2000000) only [↓Za, ↓Zo, ↓Zr, ↓Ze, ↓Zi, ↓Zs, ↓Zf, ↓Zl, ↓Zg, ↓Zc, ↓Zb, ↓vdn, vup, Zh, Zk, Zm, Zn, Zj, List.map_cons, List.map_nil, cond_true, cond_false, aop, Zv, Zq, Zp, ev, sput, Zt, Zz, Yb, unK, Zd, Zw, Nat.reduceBEq, Nat.reduceAdd, Int.reduceBEq, Int.reduceBNe, Int.reduceLT, Zu, Ya, tup, tyf])
      rw [decide_eq_true hcd]
      refine Xs rfl ?_
      refine Yd ?_
      simp (maxSteps := 2000000) only [s55, ↓Za, ↓Zo, ↓Zr, ↓Ze, ↓Zi, ↓Zs, ↓Zf, ↓Zl, ↓Zg, ↓Zc, ↓Zb, ↓vdn, vup, Zh, Zk, Zm, Zn, Zj, List.map_cons, List.map_nil, cond_true, cond_false, aop, Zv, Zq, Zp, ev, sput, Zt, Zz, Yb, unK, Zd, Zw, Nat.reduceBEq, Nat.reduceAdd, Int.reduceBEq, Int.reduceBNe, Int.reduceLT, Zu, Ya, tup, tyf]
      refine hC [(0, u), (1, v), (2, .pointer (some ⟨p2, 0, none⟩)), (3, .pointer (some ⟨p2 + 1, 0, none⟩)), (4, .slice none 0 0), (5, .int .i64 0), (6, w6), (8, .pointer (some ⟨p8, 0, none⟩)), (9, .pointer (some ⟨p8 + 1, 0, none⟩)), (10, .pointer (some ⟨p8 + 2, 0, none⟩)), (11, w), (13, Zx (x : Nat)), (24, .bool false), (37, w6), (38, Zx xs.length), (39, Zx (k : Nat))] _ _ ?_ (by simp (maxSteps := 2000000) only [↓Za, ↓Zo, ↓Zr, ↓Ze, ↓Zi, ↓Zs, ↓Zf, ↓Zl, ↓Zg, ↓Zc, ↓Zb, ↓vdn, vup, Zh, Zk, Zm, Zn, Zj, List.map_cons, List.map_nil, cond_true, cond_false, aop, Zv, Zq, Zp, ev, sput, Zt, Zz, Yb, unK, Zd, Zw, Nat.reduceBEq, Nat.reduceAdd, Int.reduceBEq, Int.reduceBNe, Int.reduceLT, Zu, Ya, tup, tyf])
      clear hC
      try clear C
      have hco' : ∀ j, j < k + 1 → gK xs ys L j < gVv xs ys (L.getD j 0) := fun j hj => by
        by_cases hjk : j = k
        · subst hjk; rw [hxe]; exact hcd
        · exact hco j (by omega)
      obtain ⟨y', y0', y1', rQ', rK'⟩ := gK_rp rc hpL hk' hco'
      have sb' := gSum_le rc hpL (k + 1) hk'
      have nK : (27720 * (12 - gSum xs L (k + 1))).natAbs ≤ 332640 := by omega
      have q0' := gQ_pos rc hpL (k + 1) hk' hco'
      have rP := gP_rp xs L k
      have rP' := gP_rp xs L (k + 1)
      have stP := gP_step xs L k
      have stQ := gQ_step ys L k
      rw [hxe] at stP stQ
      have va : ∀ h', Xa prog 64 [Zx p, Zx 12] h' (qV (gVa xs x)) := fun h' => by
        have := Wr (h := h') (a := p) (b := 12) (by decide) (by omega) (by decide)
        rw [gVa, hpe]; exact this
      have vb : ∀ h', Xa prog 64 [Zx 1, Zx q] h' (qV (gVb ys x)) := fun h' => by
        have := Wr (h := h') (a := 1) (b := q) (by omega) (by decide) (by omega)
        rw [gVb, hqe]; exact this
      have rVa : Rp 12 p (gVa xs x) := by rw [gVa, hpe]; exact Rp.of_frac (N := 12) (by decide) p
      obtain ⟨b1, b2, b3⟩ := gVb_pos rc hpL hx
      obtain ⟨z, rVb⟩ := rp_of (by decide) b3
      have zb := rVb.bound (C := 1) (Rat.le_trans (by decide) (Rat.le_of_lt b1)) b2
      have plP : ∀ h', Xa prog 71 [qV (gP xs L k), Zx (-1), qV (gVa xs x)] h' (qV (gP xs L (k + 1))) := fun h' => by
        rw [← stP]; exact plus_call rP rVa (by omega) (by decide)
      have plQ : ∀ h', Xa prog 71 [qV (gQ ys L k), Zx (-1), qV (gVb ys x)] h' (qV (gQ ys L (k + 1))) := fun h' => by
        rw [← stQ]; exact plus_call rQ rVb (by omega) (by decide)
      have ovK : ∀ h', Xa prog 94 [qV (gP xs L (k + 1)), qV (gQ ys L (k + 1))] h' (qV (gK xs ys L (k + 1))) := fun h' =>
        over_call (fits_of rP' (by decide) (by omega)) (fits_of rQ' (by decide) (by omega)) (fun hc => by rw [hc] at q0'; exact absurd q0' (by decide)) (fits_of rK' (by omega) (Nat.lt_of_le_of_lt nK (by decide)))
      obtain ⟨P, hP⟩ : ∃ P, gP xs L k = P := ⟨_, rfl⟩
      obtain ⟨P', hP'⟩ : ∃ P, gP xs L (k + 1) = P := ⟨_, rfl⟩
      obtain ⟨R, hR⟩ : ∃ P, gQ ys L k = P := ⟨_, rfl⟩
      obtain ⟨R', hR'⟩ : ∃ P, gQ ys L (k + 1) = P := ⟨_, rfl⟩
      obtain ⟨K', hK'⟩ : ∃ P, gK xs ys L (k + 1) = P := ⟨_, rfl⟩
      rw [hP, hP'] at plP
      rw [hR, hR'] at plQ
      rw [hP', hR', hK'] at ovK
      rw [hP] at f8
      rw [hR] at f9
      obtain ⟨va1, hva1⟩ : ∃ P, gVa xs x = P := ⟨_, rfl⟩
      obtain ⟨vb1, hvb1⟩ : ∃ P, gVb ys x = P := ⟨_, rfl⟩
      rw [hva1] at va plP
      rw [hvb1] at vb plQ
      -- one more chosen
      refine Zy fun N26 hN26 => ?_
      simp (maxSteps := 2000000) only [s55, ↓Za, ↓Zo, ↓Zr, ↓Ze, ↓Zi, ↓Zs, ↓Zf, ↓Zl, ↓Zg, ↓Zc, ↓Zb, ↓vdn, vup, Zh, Zk, Zm, Zn, Zj, List.map_cons, List.map_nil, cond_true, cond_false, aop, Zv, Zq, Zp, ev, sput, Zt, Zz, Yb, unK, Zd, Zw, Nat.reduceBEq, Nat.reduceAdd, Int.reduceBEq, Int.reduceBNe, Int.reduceLT, Zu, Ya, tup, tyf, List.toList_toArray, litI1]
      refine OwnSl.append (x := (x : Int)) (ow.ext (S := fun _ => False) (Ext.app _ _ _) (fun _ _ => id)) app_38_38 (by rw [iL_len, List.length_take]; omega) (Xb _ _) ?_
      intro w' h' ow' hE' hb'
      have hsn : iL (L.take k) ++ [((x : Nat) : Int)] = iL (L.take (k + 1)) := by
        rw [take_snoc (d := (0 : Nat)) (show k < L.length by omega), hxe, iL, iL, List.map_append]; rfl
      rw [hsn] at ow'
      obtain ⟨hEh, _⟩ := ownExt (e := 3) (H' := hp) hEp (fun b hb => by have := hbw b hb; omega) _ hE' hb'
      have hkeep : ∀ q, q < p8 + 3 → h'[q]? = hp[q]? := fun q hq => by
        rw [hE'.2 q (by rw [List.length_append]; omega) (fun hb0 => by have := hbw q hb0; omega), List.getElem?_append_left (by omega)]
      have hl3' : p8 + 3 ≤ h'.length := by have := hE'.1; rw [List.length_append] at this; omega
      have hbw' : ∀ b, Yq w' = some b → p8 + 3 ≤ b := fun b hb => by
        rcases hb' with hb' | ⟨b', hb1, hb2⟩
        · exact hbw b (hb' ▸ hb)
        · rw [hb1] at hb; cases hb
          rw [List.length_append] at hb2; omega
      have k8 := (hkeep p8 (by omega)).trans f8
      have k9 := (hkeep (p8 + 1) (by omega)).trans f9
      have k2 := (hEh.2 _ (Yp d2) id).trans d2
      have k3 := (hEh.2 _ (Yp d3) id).trans d3
      have kup := Xv huG hEh
      have kvp := Xv hvG hEh
      refine hN26 [(0, u), (1, v), (2, .pointer (some ⟨p2, 0, none⟩)), (3, .pointer (some ⟨p2 + 1, 0, none⟩)), (4, .slice none 0 0), (5, .int .i64 0), (6, w6), (8, .pointer (some ⟨p8, 0, none⟩)), (9, .pointer (some ⟨p8 + 1, 0, none⟩)), (10, .pointer (some ⟨p8 + 2, 0, none⟩)), (11, w'), (13, Zx (x : Nat)), (24, .bool false), (37, w6), (38, Zx xs.length), (39, Zx (k : Nat))] _ _ ?_ (by simp (maxSteps := 2000000) only [↓Za, ↓Zo, ↓Zr, ↓Ze, ↓Zi, ↓Zs, ↓Zf, ↓Zl, ↓Zg, ↓Zc, ↓Zb, ↓vdn, vup, Zh, Zk, Zm, Zn, Zj, List.map_cons, List.map_nil, cond_true, cond_false, aop, Zv, Zq, Zp, ev, sput, Zt, Zz, Yb, unK, Zd, Zw, Nat.reduceBEq, Nat.reduceAdd, Int.reduceBEq, Int.reduceBNe, Int.reduceLT, Zu, Ya, tup, tyf])
      clear hN26
      try clear N26
      -- what is left of one
      obtain ⟨h8, hh8⟩ : ∃ h8, h8 = h'.set p8 (fC P'.num P'.den) := ⟨_, rfl⟩
      have hE8 : Ext (fun _ => False) G h8 := by rw [hh8]; exact hEh.set_ge (by omega) _
      have j8 : h8[p8]? = some (fC P'.num P'.den) := by rw [hh8]; exact Xq (Yp k8) _
      have j9 : h8[p8 + 1]? = some (fC R.num R.den) := by rw [hh8, List.getElem?_set_ne (by omega)]; exact k9
      have j2 := (hE8.2 _ (Yp d2) id).trans d2
      have j3 := (hE8.2 _ (Yp d3) id).trans d3
      have jvp := Xv hvG hE8
      have jl : h8.length = h'.length := by rw [hh8, List.length_set]
      refine Zy fun N27 hN27 => ?_
      simp only [q55_18]
      refine Xd [(5, 1), (6, 1)] (by kernel_rfl) (by kernel_rfl) (by kernel_rfl) (by kernel_rfl) ?_
      refine Xn 6 rfl fun N1 hN1 => ?_
      simp (maxSteps := 2000000) only [s55, ↓Za, ↓Zo, ↓Zr, ↓Ze, ↓Zi, ↓Zs, ↓Zf, ↓Zl, ↓Zg, ↓Zc, ↓Zb, ↓vdn, vup, Zh, Zk, Zm, Zn, Zj, List.map_cons, List.map_nil, cond_true, cond_false, aop, Zv, Zq, Zp, ev, sput, Zt, Zz, Yb, unK, Zd, Zw, Nat.reduceBEq, Nat.reduceAdd, Int.reduceBEq, Int.reduceBNe, Int.reduceLT, Zu, Ya, tup, tyf, List.take_succ_cons, List.take_zero, Wz k8, load1 k2 Vb, kup.idx Xu Xp hx, kup.load Xl hx, hpe, Yr, List.nil_append, List.append_nil, List.toList_toArray, List.cons_append]
      refine ⟨_, _, va h', rfl, ?_⟩
      refine hN1 _ _ ?_
      clear hN1 N1
      refine Xn 1 rfl fun N1 hN1 => ?_
      simp (maxSteps := 2000000) only [s55, ↓Za, ↓Zo, ↓Zr, ↓Ze, ↓Zi, ↓Zs, ↓Zf, ↓Zl, ↓Zg, ↓Zc, ↓Zb, ↓vdn, vup, Zh, Zk, Zm, Zn, Zj, List.map_cons, List.map_nil, cond_true, cond_false, aop, Zv, Zq, Zp, ev, sput, Zt, Zz, Yb, unK, Zd, Zw, Nat.reduceBEq, Nat.reduceAdd, Int.reduceBEq, Int.reduceBNe, Int.reduceLT, Zu, Ya, tup, tyf, List.drop_succ_cons, List.drop_zero, List.take_succ_cons, List.take_zero, Yr, List.nil_append, List.append_nil, List.toList_toArray, List.cons_append]
      refine ⟨_, _, plP h', rfl, ?_⟩
      refine hN1 _ _ ?_
      clear hN1 N1
      simp (maxSteps := 2000000) only [s55, ↓Za, ↓Zo, ↓Zr, ↓Ze, ↓Zi, ↓Zs, ↓Zf, ↓Zl, ↓Zg, ↓Zc, ↓Zb, ↓vdn, vup, Zh, Zk, Zm, Zn, Zj, List.map_cons, List.map_nil, cond_true, cond_false, aop, Zv, Zq, Zp, ev, sput, Zt, Zz, Yb, unK, Zd, Zw, Nat.reduceBEq, Nat.reduceAdd, Int.reduceBEq, Int.reduceBNe, Int.reduceLT, Zu, Ya, tup, tyf, List.drop_succ_cons, List.drop_zero, qV, frV, Wb k8 rfl]
      rw [← hh8]
      refine hN27 [(0, u), (1, v), (2, .pointer (some ⟨p2, 0, none⟩)), (3, .pointer (some ⟨p2 + 1, 0, none⟩)), (4, .slice none 0 0), (5, .int .i64 0), (6, w6), (8, .pointer (some ⟨p8, 0, none⟩)), (9, .pointer (some ⟨p8 + 1, 0, none⟩)), (10, .pointer (some ⟨p8 + 2, 0, none⟩)), (11, w'), (13, Zx (x : Nat)), (24, .bool false), (37, w6), (38, Zx xs.length), (39, Zx (k : Nat))] _ _ ?_ (by simp (maxSteps := 2000000) only [↓Za, ↓Zo, ↓Zr, ↓Ze, ↓Zi, ↓Zs, ↓Zf, ↓Zl, ↓Zg, ↓Zc, ↓Zb, ↓vdn, vup, Zh, Zk, Zm, Zn, Zj, List.map_cons, List.map_nil, cond_true, cond_false, aop, Zv, Zq, Zp, ev, sput, Zt, Zz, Yb, unK, Zd, Zw, Nat.reduceBEq, Nat.reduceAdd, Int.reduceBEq, Int.reduceBNe, Int.reduceLT, Zu, Ya, tup, tyf])
      clear hN27
      try clear N27
      obtain ⟨h9, hh9⟩ : ∃ h9, h9 = h8.set (p8 + 1) (fC R'.num R'.den) := ⟨_, rfl⟩
      have hE9 : Ext (fun _ => False) G h9 := by rw [hh9]; exact hE8.set_ge (by omega) _
      have i8 : h9[p8]? = some (fC P'.num P'.den) := by rw [hh9, List.getElem?_set_ne (by omega)]; exact j8
      have i9 : h9[p8 + 1]? = some (fC R'.num R'.den) := by rw [hh9]; exact Xq (Yp j9) _
      have il : h9.length = h'.length := by rw [hh9, List.length_set, jl]
      refine Zy fun N28 hN28 => ?_
      simp only [q55_19]
      refine Xd [(5, 1), (6, 1)] (by kernel_rfl) (by kernel_rfl) (by kernel_rfl) (by kernel_rfl) ?_
      refine Xn 6 rfl fun N1 hN1 => ?_
      simp (maxSteps := 2000000) only [s55, ↓Za, ↓Zo, ↓Zr, ↓Ze, ↓Zi, ↓Zs, ↓Zf, ↓Zl, ↓Zg, ↓Zc, ↓Zb, ↓vdn, vup, Zh, Zk, Zm, Zn, Zj, List.map_cons, List.map_nil, cond_true, cond_false, aop, Zv, Zq, Zp, ev, sput, Zt, Zz, Yb, unK, Zd, Zw, Nat.reduceBEq, Nat.reduceAdd, Int.reduceBEq, Int.reduceBNe, Int.reduceLT, Zu, Ya, tup, tyf, List.take_succ_cons, List.take_zero, Wz j9, load1 j3 Vb, jvp.idx Xu Xp hxy, jvp.load Xl hxy, hqe, Yr, List.nil_append, List.append_nil, List.toList_toArray, List.cons_append]
      refine ⟨_, _, vb h8, rfl, ?_⟩
      refine hN1 _ _ ?_
      clear hN1 N1
      refine Xn 1 rfl fun N1 hN1 => ?_
      simp (maxSteps := 2000000) only [s55, ↓Za, ↓Zo, ↓Zr, ↓Ze, ↓Zi, ↓Zs, ↓Zf, ↓Zl, ↓Zg, ↓Zc, ↓Zb, ↓vdn, vup, Zh, Zk, Zm, Zn, Zj, List.map_cons, List.map_nil, cond_true, cond_false, aop, Zv, Zq, Zp, ev, sput, Zt, Zz, Yb, unK, Zd, Zw, Nat.reduceBEq, Nat.reduceAdd, Int.reduceBEq, Int.reduceBNe, Int.reduceLT, Zu, Ya, tup, tyf, List.drop_succ_cons, List.drop_zero, List.take_succ_cons, List.take_zero, Yr, List.nil_append, List.append_nil, List.toList_toArray, List.cons_append]
      refine ⟨_, _, plQ h8, rfl, ?_⟩
      refine hN1 _ _ ?_
      clear hN1 N1
      simp (maxSteps := 2000000) only [s55, ↓Za, ↓Zo, ↓Zr, ↓Ze, ↓Zi, ↓Zs, ↓Zf, ↓Zl, ↓Zg, ↓Zc, ↓Zb, ↓vdn, vup, Zh, Zk, Zm, Zn, Zj, List.map_cons, List.map_nil, cond_true, cond_false, aop, Zv, Zq, Zp, ev, sput, Zt, Zz, Yb, unK, Zd, Zw, Nat.reduceBEq, Nat.reduceAdd, Int.reduceBEq, Int.reduceBNe, Int.reduceLT, Zu, Ya, tup, tyf, List.drop_succ_cons, List.drop_zero, qV, frV, Wb j9 rfl]
      rw [← hh9]
      refine hN28 [(0, u), (1, v), (2, .pointer (some ⟨p2, 0, none⟩)), (3, .pointer (some ⟨p2 + 1, 0, none⟩)), (4, .slice none 0 0), (5, .int .i64 0), (6, w6), (8, .pointer (some ⟨p8, 0, none⟩)), (9, .pointer (some ⟨p8 + 1, 0, none⟩)), (10, .pointer (some ⟨p8 + 2, 0, none⟩)), (11, w'), (13, Zx (x : Nat)), (24, .bool false), (37, w6), (38, Zx xs.length), (39, Zx (k : Nat))] _ _ ?_ (by simp (maxSteps := 2000000) only [↓Za, ↓Zo, ↓Zr, ↓Ze, ↓Zi, ↓Zs, ↓Zf, ↓Zl, ↓Zg, ↓Zc, ↓Zb, ↓vdn, vup, Zh, Zk, Zm, Zn, Zj, List.map_cons, List.map_nil, cond_true, cond_false, aop, Zv, Zq, Zp, ev, sput, Zt, Zz, Yb, unK, Zd, Zw, Nat.reduceBEq, Nat.reduceAdd, Int.reduceBEq, Int.reduceBNe, Int.reduceLT, Zu, Ya, tup, tyf])
      clear hN28
      try clear N28
      have i10 : h9[p8 + 2]? = some (fC (gK xs ys L k).num (gK xs ys L k).den) := by
        rw [hh9, List.getElem?_set_ne (by omega), hh8, List.getElem?_set_ne (by omega)]
        exact (hkeep (p8 + 2) (by omega)).trans f10
      refine Yd ?_
      simp (maxSteps := 2000000) only [s55, ↓Za, ↓Zo, ↓Zr, ↓Ze, ↓Zi, ↓Zs, ↓Zf, ↓Zl, ↓Zg, ↓Zc, ↓Zb, ↓vdn, vup, Zh, Zk, Zm, Zn, Zj, List.map_cons, List.map_nil, cond_true, cond_false, aop, Zv, Zq, Zp, ev, sput, Zt, Zz, Yb, unK, Zd, Zw, Nat.reduceBEq, Nat.reduceAdd, Int.reduceBEq, Int.reduceBNe, Int.reduceLT, Zu, Ya, tup, tyf, Yr, List.nil_append, List.append_nil, List.toList_toArray, List.cons_append, Wz i8, Wz i9]
      refine (ovK h9).mono ?_
      rintro _ h9 ⟨rfl, rfl⟩
      simp (maxSteps := 2000000) only [s55, ↓Za, ↓Zo, ↓Zr, ↓Ze, ↓Zi, ↓Zs, ↓Zf, ↓Zl, ↓Zg, ↓Zc, ↓Zb, ↓vdn, vup, Zh, Zk, Zm, Zn, Zj, List.map_cons, List.map_nil, cond_true, cond_false, aop, Zv, Zq, Zp, ev, sput, Zt, Zz, Yb, unK, Zd, Zw, Nat.reduceBEq, Nat.reduceAdd, Int.reduceBEq, Int.reduceBNe, Int.reduceLT, Zu, Ya, tup, tyf, qV, frV, Wb i10 rfl]
      obtain ⟨h10, hh10⟩ : ∃ h10, h10 = h9.set (p8 + 2) (fC K'.num K'.den) := ⟨_, rfl⟩
      rw [← hh10]
      refine hB [(0, u), (1, v), (2, .pointer (some ⟨p2, 0, none⟩)), (3, .pointer (some ⟨p2 + 1, 0, none⟩)), (4, .slice none 0 0), (5, .int .i64 0), (6, w6), (8, .pointer (some ⟨p8, 0, none⟩)), (9, .pointer (some ⟨p8 + 1, 0, none⟩)), (10, .pointer (some ⟨p8 + 2, 0, none⟩)), (11, w'), (24, .bool false), (37, w6), (38, Zx xs.length), (39, Zx (k : Nat))] _ _ ?_ (by simp (maxSteps := 2000000) only [↓Za, ↓Zo, ↓Zr, ↓Ze, ↓Zi, ↓Zs, ↓Zf, ↓Zl, ↓Zg, ↓Zc, ↓Zb, ↓vdn, vup, Zh, Zk, Zm, Zn, Zj, List.map_cons, List.map_nil, cond_true, cond_false, aop, Zv, Zq, Zp, ev, sput, Zt, Zz, Yb, unK, Zd, Zw, Nat.reduceBEq, Nat.reduceAdd, Int.reduceBEq, Int.reduceBNe, Int.reduceLT, Zu, Ya, tup, tyf])
      clear hB
      try clear B
      refine Yd ?_
      simp (maxSteps := 2000000) only [s55, ↓Za, ↓Zo, ↓Zr, ↓Ze, ↓Zi, ↓Zs, ↓Zf, ↓Zl, ↓Zg, ↓Zc, ↓Zb, ↓vdn, vup, Zh, Zk, Zm, Zn, Zj, List.map_cons, List.map_nil, cond_true, cond_false, aop, Zv, Zq, Zp, ev, sput, Zt, Zz, Yb, unK, Zd, Zw, Nat.reduceBEq, Nat.reduceAdd, Int.reduceBEq, Int.reduceBNe, Int.reduceLT, Zu, Ya, tup, tyf, add1 (show k < 9223372036854775807 by omega)]
      have hE10 : Ext (fun _ => False) G h10 := by rw [hh10]; exact hE9.set_ge (by omega) _
      have hES : Ext (fun i => i = p8 ∨ i = p8 + 1 ∨ i = p8 + 2) h' h10 := by
        rw [hh10, hh9, hh8]
        exact ((Ext.set _ (.inl rfl)).trans (Ext.set _ (.inr (.inl rfl)))).trans (Ext.set _ (.inr (.inr rfl)))
      refine hQ2 _ _ _ ⟨(k + 1, w', h10), ⟨hk', hco', ow'.ext hES (fun b hb hc => by have := hbw' b hb; omega), hE10, ?_, ?_, ?_, ?_, hbw'⟩, by simp only; omega, by simp (maxSteps := 2000000) only [↓Za, ↓Zo, ↓Zr, ↓Ze, ↓Zi, ↓Zs, ↓Zf, ↓Zl, ↓Zg, ↓Zc, ↓Zb, ↓vdn, vup, Zh, Zk, Zm, Zn, Zj, List.map_cons, List.map_nil, cond_true, cond_false, aop, Zv, Zq, Zp, ev, sput, Zt, Zz, Yb, unK, Zd, Zw, Nat.reduceBEq, Nat.reduceAdd, Int.reduceBEq, Int.reduceBNe, Int.reduceLT, Zu, Ya, tup, tyf], rfl⟩
      · simp only; rw [hh10, List.length_set]; omega
      · simp only; rw [hP', hh10, List.getElem?_set_ne (by omega)]; exact i8
      · simp only; rw [hR', hh10, List.getElem?_set_ne (by omega)]; exact i9
      · simp only; rw [hK', hh10]; exact Xq (Yp i10) _
    · obtain rfl : k = xs.length := by omega
      refine Zy fun N29 hN29 => ?_
      simp (maxSteps := 2000000) only [s55, ↓Za, ↓Zo, ↓Zr, ↓Ze, ↓Zi, ↓Zs, ↓Zf, ↓Zl, ↓Zg, ↓Zc, ↓Zb, ↓vdn, vup, Zh, Zk, Zm, Zn, Zj, List.map_cons, List.map_nil, cond_true, cond_false, aop, Zv, Zq, Zp, ev, sput, Zt, Zz, Yb, unK, Zd, Zw, Nat.reduceBEq, Nat.reduceAdd, Int.reduceBEq, Int.reduceBNe, Int.reduceLT, Zu, Ya, tup, tyf, hin]
      refine hN29 [(0, u), (1, v), (2, .pointer (some ⟨p2, 0, none⟩)), (3, .pointer (some ⟨p2 + 1, 0, none⟩)), (4, .slice none 0 0), (5, .int .i64 0), (6, w6), (8, .pointer (some ⟨p8, 0, none⟩)), (9, .pointer (some ⟨p8 + 1, 0, none⟩)), (10, .pointer (some ⟨p8 + 2, 0, none⟩)), (11, w), (24, .bool false), (37, w6), (38, Zx xs.length), (39, Zx xs.length), (40, .bool false)] _ _ ?_ (by simp (maxSteps := 2000000) only [↓Za, ↓Zo, ↓Zr, ↓Ze, ↓Zi, ↓Zs, ↓Zf, ↓Zl, ↓Zg, ↓Zc, ↓Zb, ↓vdn, vup, Zh, Zk, Zm, Zn, Zj, List.map_cons, List.map_nil, cond_true, cond_false, aop, Zv, Zq, Zp, ev, sput, Zt, Zz, Yb, unK, Zd, Zw, Nat.reduceBEq, Nat.reduceAdd, Int.reduceBEq, Int.reduceBNe, Int.reduceLT, Zu, Ya, tup, tyf])
      clear hN29
      try clear N29
      refine Zy fun N30 hN30 => ?_
      simp (maxSteps := 2000000) only [s55, ↓Za, ↓Zo, ↓Zr, ↓Ze, ↓Zi, ↓Zs, ↓Zf, ↓Zl, ↓Zg, ↓Zc, ↓Zb, ↓vdn, vup, Zh, Zk, Zm, Zn, Zj, List.map_cons, List.map_nil, cond_true, cond_false, aop, Zv, Zq, Zp, ev, sput, Zt, Zz, Yb, unK, Zd, Zw, Nat.reduceBEq, Nat.reduceAdd, Int.reduceBEq, Int.reduceBNe, Int.reduceLT, Zu, Ya, tup, tyf]
      refine hQ2 _ _ _ (hQ _ _ _ ?_)
      simp (maxSteps := 2000000) only [s55, ↓Za, ↓Zo, ↓Zr, ↓Ze, ↓Zi, ↓Zs, ↓Zf, ↓Zl, ↓Zg, ↓Zc, ↓Zb, ↓vdn, vup, Zh, Zk, Zm, Zn, Zj, List.map_cons, List.map_nil, cond_true, cond_false, aop, Zv, Zq, Zp, ev, sput, Zt, Zz, Yb, unK, Zd, Zw, Nat.reduceBEq, Nat.reduceAdd, Int.reduceBEq, Int.reduceBNe, Int.reduceLT, Zu, Ya, tup, tyf, if_true]
      exact fin xs.length w hp ⟨hpL, hsL, hk, hco, .inl rfl⟩ ow hEp hl3 f10 hbw _ (by simp (maxSteps := 2000000) only [↓Za, ↓Zo, ↓Zr, ↓Ze, ↓Zi, ↓Zs, ↓Zf, ↓Zl, ↓Zg, ↓Zc, ↓Zb, ↓vdn, vup, Zh, Zk, Zm, Zn, Zj, List.map_cons, List.map_nil, cond_true, cond_false, aop, Zv, Zq, Zp, ev, sput, Zt, Zz, Yb, unK, Zd, Zw, Nat.reduceBEq, Nat.reduceAdd, Int.reduceBEq, Int.reduceBNe, Int.reduceLT, Zu, Ya, tup, tyf])
end Go.Proofs.Try.Am

namespace Go.Proofs.Try.Am
open Go.Am Bq
set_option maxRecDepth 100000
set_option maxHeartbeats 1000000

end Go.Proofs.Try.Am

namespace Go.Proofs.Try.Am
open Go.Am Bq
set_option maxRecDepth 100000
set_option maxHeartbeats 1000000

end Go.Proofs.Try.Am

namespace Go.Proofs.Try.Am
open Go.Am Bq
set_option maxRecDepth 100000
set_option maxHeartbeats 1000000

theorem set_replicate {k n : Nat} (hk : k < n) : (List.replicate k ((0 : Int), (1 : Int)) ++ List.replicate (n - k) (0, 0)).set k (0, 1) = List.replicate (k + 1) (0, 1) ++ List.replicate (n - (k + 1)) (0, 0) := by
  rw [List.set_append_right _ _ (by simp), List.length_replicate, Nat.sub_self, show n - k = (n - (k + 1)) + 1 by omega, List.replicate_succ, List.set_cons_zero, List.replicate_succ' (n := k), List.append_assoc]
  rfl

end Go.Proofs.Try.Am

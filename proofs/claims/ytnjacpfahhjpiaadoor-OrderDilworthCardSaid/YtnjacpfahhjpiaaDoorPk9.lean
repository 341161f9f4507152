/-
  order: laws Chains and Dilworth.
-/
import Derived.Test.YtnjacpfahhjpiaaDoorPk8
set_option linter.all false
namespace Go.Proofs.Tryd.Am
open Go.Am Ord
set_option maxRecDepth 100000
set_option maxHeartbeats 4000000

structure PartF (o : List Int) (s : Nat) (cs : List Nat) : Prop where
  el : ∀ c ∈ cs, c ≠ 0 ∧ Xi c s = 0 ∧ uni o c false = true
  pw : cs.Pairwise fun a b => a &&& b = 0
  un : ∀ k, s.testBit k = true ↔ ∃ c ∈ cs, c.testBit k = true
/-- What was met among the first i. -/
def metL (L : List Nat) (i : Nat) : Nat := (L.take i).foldl (fun r c => r ||| c) 0
theorem metL_bit {L : List Nat} {i k : Nat} : (metL L i).testBit k = (L.take i).any fun c => c.testBit k := by
  rw [metL]
  have := foldl_or_bit (f := id) (w := k) (L.take i) 0
  simpa using this
theorem getD_get {L : List Nat} {i : Nat} (hi : i < L.length) : L.getD i 0 = L[i] := by rw [List.getD, List.getElem?_eq_getElem hi]; rfl
theorem PartF.met {o : List Int} {s : Nat} {L : List Nat} (h : PartF o s L) {i : Nat} (hi : i < L.length) : L.getD i 0 &&& metL L i = 0 := and_zero.2 fun k hk => by
  rw [metL_bit, List.any_eq_false]
  intro c hc hck
  obtain ⟨j, hj, he⟩ := List.mem_iff_getElem.1 hc
  rw [List.length_take] at hj
  rw [List.getElem_take] at he
  have := List.pairwise_iff_getElem.1 h.pw j i (by omega) hi (by omega)
  rw [he, ← getD_get hi] at this
  have := and_zero.1 this k hck
  rw [hk] at this; cases this
theorem PartF.all {o : List Int} {s : Nat} {L : List Nat} (h : PartF o s L) : metL L L.length = s := Nat.eq_of_testBit_eq fun k => by
  rw [metL_bit, List.take_length, Bool.eq_iff_iff, List.any_eq_true, h.un k]
theorem PartF.lt {o : List Int} {s : Nat} {L : List Nat} (h : PartF o s L) (hs : L.Pairwise fun a b => a ≤ b) {i : Nat} (hi : i + 1 < L.length) : L.getD i 0 < L.getD (i + 1) 0 := by
  have h1 := List.pairwise_iff_getElem.1 h.pw i (i + 1) (by omega) hi (by omega)
  have h2 := List.pairwise_iff_getElem.1 hs i (i + 1) (by omega) hi (by omega)
  rw [getD_get hi, getD_get (show i < L.length by omega)]
  refine Nat.lt_of_le_of_ne h2 fun he => ?_
  rw [he, Nat.and_self] at h1
  exact (h.el _ (List.getElem_mem hi)).1 h1
theorem setsIs_take {o : List Int} {L : List Int → List Nat} {h : Zx} {x : Value} {e : Int} (hs : SetsIs (o.take 9) (L (o.take 9)) h x e) : SetsIs o (L o) h x e := by
  by_cases ho : ord o = true
  · rwa [ord_take_eq ho] at hs
  · rw [SetsIs, ord_take, if_neg ho] at hs
    rw [SetsIs, if_neg ho]; exact hs
theorem chainsIs_take {o : List Int} {h : Zx} {x : Value} {e : Int} (hs : ChainsIs (o.take 9) h x e) : ChainsIs o h x e := by
  by_cases ho : ord o = true
  · rwa [ord_take_eq ho] at hs
  · rw [ChainsIs, ord_take, if_neg ho] at hs
    rw [ChainsIs, if_neg ho]; exact hs
theorem antiV_take {o : List Int} : antiV (o.take 9) = antiV o := by
  by_cases ho : ord o = true
  · rw [ord_take_eq ho]
  · rw [antiV, antiV, ord_take, if_neg ho, if_neg ho]

theorem anti_pos {o : List Int} (ho : ord o = true) : 0 < Wj o := by
  have hln := Yx ho
  have hp := pow6 hln.2
  obtain ⟨m1, m2, m3, m4⟩ := antiTo_spec o (2 ^ o.length) (by omega)
  have h1 : (1 : Nat) < 2 ^ o.length := Nat.lt_of_lt_of_le (by decide : (1 : Nat) < 2 ^ 1) (Nat.pow_le_pow_right (by decide) hln.1)
  have hu : uni o 1 true = true := (uni_iff h1).2 fun i j hij hi hj => by
    have e : ∀ k, (1 : Nat).testBit k = true → k = 0 := fun k hk => by
      rcases Nat.eq_zero_or_pos k with h | h
      · exact h
      · rw [Nat.testBit_lt_two_pow (Nat.lt_of_lt_of_le (by decide : (1 : Nat) < 2 ^ 1) (Nat.pow_le_pow_right (by decide) h))] at hk; cases hk
    exact absurd ((e i hi).trans (e j hj).symm) hij
  have := m3 1 h1 hu
  have hb1 : (Am.bits 1).length = 1 := by decide
  rcases Nat.eq_zero_or_pos (Wj o) with h | h
  · rw [show Vd o (2 ^ o.length) = Wj o from rfl, h, hb1, show (Am.bits 0).length = 0 by decide] at this
    omega
  · exact h
theorem antiM_lt {o : List Int} (ho : ord o = true) : Wj o < 2 ^ o.length ∧ uni o (Wj o) true = true := by
  have hp := pow6 (Yx ho).2
  obtain ⟨m1, m2, m3, m4⟩ := antiTo_spec o (2 ^ o.length) (by omega)
  exact ⟨m1, m2⟩
theorem setsL_len_succ {p : Nat → Bool} (s : Nat) : ((List.range (s + 1)).filter p).length = ((List.range s).filter p).length + if p s = true then 1 else 0 := by
  rw [filter_succ, List.length_append]; split <;> rfl

theorem s15_callW [Tabs Tryd.prog] {args : List Value} {h : Zx} {Q : Value → Zx → Prop} (hsz : args.length ≤ 101) (hk : AWS Tryd.prog 101 s15 (Zu Tryd.prog [.tmp 2] Q) (Zp 0 args) h) : ACall Tryd.prog 15 args h Q :=
  Wa Tryd.func15 rfl (enters_of Tryd.func15 (by kernel_rfl) rfl) rfl rfl (by decide) s15_strip s15_ok hsz hk
theorem law_dilworth [BitTab prog 1] {h : Zx} {v : Value} {o : List Int} (hv : IntSl h v o) (hl : o.length < 9223372036854775808) (hx : ∀ x ∈ o, -9223372036854775808 ≤ x ∧ x < 9223372036854775808) :
    ACall prog 15 [v] h fun r _ => r = .bool true := by
  have hx9 : ∀ x ∈ o.take 9, -9223372036854775808 ≤ x ∧ x < 9223372036854775808 := fun x hm => hx x (List.take_subset _ _ hm)
  have hl9 : (o.take 9).length < 9223372036854775808 := by simp; omega
  refine s15_callW (by simp) ?_
  simp only [s15]
  refine Yc fun N18 hN18 => ?_
  simp (maxSteps := 2000000) only [s15, ↓Za, ↓Zj, ↓Zr, ↓Ze, ↓Zl, ↓Zs, ↓Zf, ↓Zm, ↓Zg, ↓Zb, ↓Zc, ↓vdn, vup, Zk, Zo, Zn, Zi, Zh, List.map_cons, List.map_nil, cond_true, cond_false, aop, Zv, Zq, Zp, ev, sput, Zt, Zy, Ya, unK, Zd, Zw, Nat.reduceBEq, Nat.reduceAdd, Int.reduceBEq, Int.reduceBNe, Int.reduceLT, Zu, Zz, tup, tyf]
  refine hN18 [(0, v), (2, .bool false)] _ _ ?_ (by simp (maxSteps := 2000000) only [↓Za, ↓Zj, ↓Zr, ↓Ze, ↓Zl, ↓Zs, ↓Zf, ↓Zm, ↓Zg, ↓Zb, ↓Zc, ↓vdn, vup, Zk, Zo, Zn, Zi, Zh, List.map_cons, List.map_nil, cond_true, cond_false, aop, Zv, Zq, Zp, ev, sput, Zt, Zy, Ya, unK, Zd, Zw, Nat.reduceBEq, Nat.reduceAdd, Int.reduceBEq, Int.reduceBNe, Int.reduceLT, Zu, Zz, tup, tyf])
  clear hN18
  try clear N18
  refine Yc fun N19 hN19 => ?_
  simp (maxSteps := 2000000) only [s15, ↓Za, ↓Zj, ↓Zr, ↓Ze, ↓Zl, ↓Zs, ↓Zf, ↓Zm, ↓Zg, ↓Zb, ↓Zc, ↓vdn, vup, Zk, Zo, Zn, Zi, Zh, List.map_cons, List.map_nil, cond_true, cond_false, aop, Zv, Zq, Zp, ev, sput, Zt, Zy, Ya, unK, Zd, Zw, Nat.reduceBEq, Nat.reduceAdd, Int.reduceBEq, Int.reduceBNe, Int.reduceLT, Zu, Zz, tup, tyf, Yr, List.nil_append, List.append_nil, List.toList_toArray, List.cons_append]
  refine (list_call hv hl).mono ?_
  rintro l1 _ ⟨hl1, g1, rfl⟩
  refine (chains_call hl1 hl9 hx9).mono ?_
  rintro _ h1 ⟨hE1, x1, e1, rfl, hi1⟩
  replace hi1 := chainsIs_take hi1
  have hv1 := Wc (hv.grow g1) hE1
  simp (maxSteps := 2000000) only [s15, ↓Za, ↓Zj, ↓Zr, ↓Ze, ↓Zl, ↓Zs, ↓Zf, ↓Zm, ↓Zg, ↓Zb, ↓Zc, ↓vdn, vup, Zk, Zo, Zn, Zi, Zh, List.map_cons, List.map_nil, cond_true, cond_false, aop, Zv, Zq, Zp, ev, sput, Zt, Zy, Ya, unK, Zd, Zw, Nat.reduceBEq, Nat.reduceAdd, Int.reduceBEq, Int.reduceBNe, Int.reduceLT, Zu, Zz, tup, tyf]
  refine hN19 [(0, v), (2, .bool false), (3, x1), (4, .int .i64 e1)] _ _ ?_ (by simp (maxSteps := 2000000) only [↓Za, ↓Zj, ↓Zr, ↓Ze, ↓Zl, ↓Zs, ↓Zf, ↓Zm, ↓Zg, ↓Zb, ↓Zc, ↓vdn, vup, Zk, Zo, Zn, Zi, Zh, List.map_cons, List.map_nil, cond_true, cond_false, aop, Zv, Zq, Zp, ev, sput, Zt, Zy, Ya, unK, Zd, Zw, Nat.reduceBEq, Nat.reduceAdd, Int.reduceBEq, Int.reduceBNe, Int.reduceLT, Zu, Zz, tup, tyf])
  clear hN19
  try clear N19
  refine Yc fun N20 hN20 => ?_
  simp (maxSteps := 2000000) only [s15, ↓Za, ↓Zj, ↓Zr, ↓Ze, ↓Zl, ↓Zs, ↓Zf, ↓Zm, ↓Zg, ↓Zb, ↓Zc, ↓vdn, vup, Zk, Zo, Zn, Zi, Zh, List.map_cons, List.map_nil, cond_true, cond_false, aop, Zv, Zq, Zp, ev, sput, Zt, Zy, Ya, unK, Zd, Zw, Nat.reduceBEq, Nat.reduceAdd, Int.reduceBEq, Int.reduceBNe, Int.reduceLT, Zu, Zz, tup, tyf, Yr, List.nil_append, List.append_nil, List.toList_toArray, List.cons_append]
  refine (list_call hv1 hl).mono ?_
  rintro l2 _ ⟨hl2, g2, rfl⟩
  refine (anti_call hl2 hl9 hx9).mono ?_
  rintro _ _ ⟨rfl, rfl⟩
  rw [antiV_take]
  have hv2 := hv1.grow g2
  have hE12 : Ext (fun _ => False) h1 (h1 ++ g2) := Ext.app _ _ _
  obtain ⟨h2, hh2⟩ : ∃ H, H = h1 ++ g2 := ⟨_, rfl⟩
  rw [← hh2] at hv2 hE12 ⊢
  have z00 : ((0 : Int) == 0) = true := rfl
  have n00 : ((0 : Int) != 0) = false := rfl
  have n20 : ((2 : Int) != 0) = true := rfl
  have e22 : ((2 : Int) == 2) = true := rfl
  cases ho : ord o with
  | false =>
    rw [ChainsIs, ho, if_neg (by decide)] at hi1
    obtain ⟨rfl, rfl⟩ := hi1
    rw [antiV, ho, if_neg (by decide)]
    simp (maxSteps := 2000000) only [s15, ↓Za, ↓Zj, ↓Zr, ↓Ze, ↓Zl, ↓Zs, ↓Zf, ↓Zm, ↓Zg, ↓Zb, ↓Zc, ↓vdn, vup, Zk, Zo, Zn, Zi, Zh, List.map_cons, List.map_nil, cond_true, cond_false, aop, Zv, Zq, Zp, ev, sput, Zt, Zy, Ya, unK, Zd, Zw, Nat.reduceBEq, Nat.reduceAdd, Int.reduceBEq, Int.reduceBNe, Int.reduceLT, Zu, Zz, tup, tyf]
    refine hN20 [(0, v), (2, .bool false), (3, .slice none 0 0), (4, .int .i64 2), (5, .int .i64 0), (6, .int .i64 2)] _ _ ?_ (by simp (maxSteps := 2000000) only [↓Za, ↓Zj, ↓Zr, ↓Ze, ↓Zl, ↓Zs, ↓Zf, ↓Zm, ↓Zg, ↓Zb, ↓Zc, ↓vdn, vup, Zk, Zo, Zn, Zi, Zh, List.map_cons, List.map_nil, cond_true, cond_false, aop, Zv, Zq, Zp, ev, sput, Zt, Zy, Ya, unK, Zd, Zw, Nat.reduceBEq, Nat.reduceAdd, Int.reduceBEq, Int.reduceBNe, Int.reduceLT, Zu, Zz, tup, tyf])
    clear hN20
    try clear N20
    refine Yc fun N21 hN21 => ?_
    simp (maxSteps := 2000000) only [s15, ↓Za, ↓Zj, ↓Zr, ↓Ze, ↓Zl, ↓Zs, ↓Zf, ↓Zm, ↓Zg, ↓Zb, ↓Zc, ↓vdn, vup, Zk, Zo, Zn, Zi, Zh, List.map_cons, List.map_nil, cond_true, cond_false, aop, Zv, Zq, Zp, ev, sput, Zt, Zy, Ya, unK, Zd, Zw, Nat.reduceBEq, Nat.reduceAdd, Int.reduceBEq, Int.reduceBNe, Int.reduceLT, Zu, Zz, tup, tyf, Yr, List.nil_append, List.append_nil, List.toList_toArray, List.cons_append]
    refine (list_call hv2 hl).mono ?_
    rintro l3 _ ⟨hl3, g3, rfl⟩
    refine (ideals_call hl3 hl9 hx9).mono ?_
    rintro _ H ⟨hE3, x3, e3, rfl, hi3⟩
    replace hi3 := setsIs_take (L := fun o => setsL o (idl o)) hi3
    rw [SetsIs, ho, if_neg (by decide)] at hi3
    obtain ⟨rfl, rfl⟩ := hi3
    simp (maxSteps := 2000000) only [s15, ↓Za, ↓Zj, ↓Zr, ↓Ze, ↓Zl, ↓Zs, ↓Zf, ↓Zm, ↓Zg, ↓Zb, ↓Zc, ↓vdn, vup, Zk, Zo, Zn, Zi, Zh, List.map_cons, List.map_nil, cond_true, cond_false, aop, Zv, Zq, Zp, ev, sput, Zt, Zy, Ya, unK, Zd, Zw, Nat.reduceBEq, Nat.reduceAdd, Int.reduceBEq, Int.reduceBNe, Int.reduceLT, Zu, Zz, tup, tyf]
    refine hN21 [(0, v), (2, .bool false), (3, .slice none 0 0), (4, .int .i64 2), (5, .int .i64 0), (6, .int .i64 2), (7, .slice none 0 0), (8, .int .i64 2)] _ _ ?_ (by simp (maxSteps := 2000000) only [↓Za, ↓Zj, ↓Zr, ↓Ze, ↓Zl, ↓Zs, ↓Zf, ↓Zm, ↓Zg, ↓Zb, ↓Zc, ↓vdn, vup, Zk, Zo, Zn, Zi, Zh, List.map_cons, List.map_nil, cond_true, cond_false, aop, Zv, Zq, Zp, ev, sput, Zt, Zy, Ya, unK, Zd, Zw, Nat.reduceBEq, Nat.reduceAdd, Int.reduceBEq, Int.reduceBNe, Int.reduceLT, Zu, Zz, tup, tyf])
    clear hN21
    try clear N21
    refine Yu fun M hM => ?_
    refine Yc fun N22 hN22 => ?_
    simp (maxSteps := 2000000) only [s15, ↓Za, ↓Zj, ↓Zr, ↓Ze, ↓Zl, ↓Zs, ↓Zf, ↓Zm, ↓Zg, ↓Zb, ↓Zc, ↓vdn, vup, Zk, Zo, Zn, Zi, Zh, List.map_cons, List.map_nil, cond_true, cond_false, aop, Zv, Zq, Zp, ev, sput, Zt, Zy, Ya, unK, Zd, Zw, Nat.reduceBEq, Nat.reduceAdd, Int.reduceBEq, Int.reduceBNe, Int.reduceLT, Zu, Zz, tup, tyf, n20]
    refine hN22 [(0, v), (2, .bool false), (3, .slice none 0 0), (4, .int .i64 2), (5, .int .i64 0), (6, .int .i64 2), (7, .slice none 0 0), (8, .int .i64 2), (35, .bool true)] _ _ ?_ (by simp (maxSteps := 2000000) only [↓Za, ↓Zj, ↓Zr, ↓Ze, ↓Zl, ↓Zs, ↓Zf, ↓Zm, ↓Zg, ↓Zb, ↓Zc, ↓vdn, vup, Zk, Zo, Zn, Zi, Zh, List.map_cons, List.map_nil, cond_true, cond_false, aop, Zv, Zq, Zp, ev, sput, Zt, Zy, Ya, unK, Zd, Zw, Nat.reduceBEq, Nat.reduceAdd, Int.reduceBEq, Int.reduceBNe, Int.reduceLT, Zu, Zz, tup, tyf])
    clear hN22
    try clear N22
    refine Ws rfl ?_
    refine Yc fun N23 hN23 => ?_
    simp only [q15_5]
    refine Wl 8 fun N1 hN1 => ?_
    simp (maxSteps := 2000000) only [s15, ↓Za, ↓Zj, ↓Zr, ↓Ze, ↓Zl, ↓Zs, ↓Zf, ↓Zm, ↓Zg, ↓Zb, ↓Zc, ↓vdn, vup, Zk, Zo, Zn, Zi, Zh, List.map_cons, List.map_nil, cond_true, cond_false, aop, Zv, Zq, Zp, ev, sput, Zt, Zy, Ya, unK, Zd, Zw, Nat.reduceBEq, Nat.reduceAdd, Int.reduceBEq, Int.reduceBNe, Int.reduceLT, Zu, Zz, tup, tyf, List.take_succ_cons, List.take_zero, e22]
    refine hN1 _ _ ?_
    clear hN1 N1
    simp only [List.drop_succ_cons, List.drop_zero]
    refine Wl 5 fun N1 hN1 => ?_
    simp (maxSteps := 2000000) only [s15, ↓Za, ↓Zj, ↓Zr, ↓Ze, ↓Zl, ↓Zs, ↓Zf, ↓Zm, ↓Zg, ↓Zb, ↓Zc, ↓vdn, vup, Zk, Zo, Zn, Zi, Zh, List.map_cons, List.map_nil, cond_true, cond_false, aop, Zv, Zq, Zp, ev, sput, Zt, Zy, Ya, unK, Zd, Zw, Nat.reduceBEq, Nat.reduceAdd, Int.reduceBEq, Int.reduceBNe, Int.reduceLT, Zu, Zz, tup, tyf, List.take_succ_cons, List.take_zero, e22]
    refine hN1 _ _ ?_
    clear hN1 N1
    simp only [List.drop_succ_cons, List.drop_zero]
    simp (maxSteps := 2000000) only [s15, ↓Za, ↓Zj, ↓Zr, ↓Ze, ↓Zl, ↓Zs, ↓Zf, ↓Zm, ↓Zg, ↓Zb, ↓Zc, ↓vdn, vup, Zk, Zo, Zn, Zi, Zh, List.map_cons, List.map_nil, cond_true, cond_false, aop, Zv, Zq, Zp, ev, sput, Zt, Zy, Ya, unK, Zd, Zw, Nat.reduceBEq, Nat.reduceAdd, Int.reduceBEq, Int.reduceBNe, Int.reduceLT, Zu, Zz, tup, tyf, Yr, List.nil_append, List.append_nil, List.toList_toArray, List.cons_append]
    refine (awake_call).mono ?_
    rintro _ H ⟨rfl, rfl⟩
    refine hN23 [(0, v), (2, .bool true), (3, .slice none 0 0), (4, .int .i64 2), (5, .int .i64 0), (6, .int .i64 2), (7, .slice none 0 0), (8, .int .i64 2), (35, .bool true)] _ _ ?_ (by simp (maxSteps := 2000000) only [↓Za, ↓Zj, ↓Zr, ↓Ze, ↓Zl, ↓Zs, ↓Zf, ↓Zm, ↓Zg, ↓Zb, ↓Zc, ↓vdn, vup, Zk, Zo, Zn, Zi, Zh, List.map_cons, List.map_nil, cond_true, cond_false, aop, Zv, Zq, Zp, ev, sput, Zt, Zy, Ya, unK, Zd, Zw, Nat.reduceBEq, Nat.reduceAdd, Int.reduceBEq, Int.reduceBNe, Int.reduceLT, Zu, Zz, tup, tyf])
    clear hN23
    try clear N23
    refine Yj ?_
    simp (maxSteps := 2000000) only [s15, ↓Za, ↓Zj, ↓Zr, ↓Ze, ↓Zl, ↓Zs, ↓Zf, ↓Zm, ↓Zg, ↓Zb, ↓Zc, ↓vdn, vup, Zk, Zo, Zn, Zi, Zh, List.map_cons, List.map_nil, cond_true, cond_false, aop, Zv, Zq, Zp, ev, sput, Zt, Zy, Ya, unK, Zd, Zw, Nat.reduceBEq, Nat.reduceAdd, Int.reduceBEq, Int.reduceBNe, Int.reduceLT, Zu, Zz, tup, tyf]
  | true =>
    have hln := Yx ho
    have hp := pow6 hln.2
    have hsh : shlV .i64 1 ((o.length : Nat) : Int) = ((2 ^ o.length : Nat) : Int) := by rw [shl1 (by omega), pow_cast]
    rw [ChainsIs, ho, if_pos rfl] at hi1
    obtain ⟨rfl, L, cs, hpart, hcl, hLp, hLs, hi1⟩ := hi1
    rw [antiV, ho, if_pos rfl]
    obtain ⟨ha1, ha2⟩ := antiM_lt ho
    have hLl : L.length = (Am.bits (Wj o)).length := by rw [hLp.length_eq, hcl, fewest_anti ho (fw_spec o _)]
    simp (maxSteps := 2000000) only [s15, ↓Za, ↓Zj, ↓Zr, ↓Ze, ↓Zl, ↓Zs, ↓Zf, ↓Zm, ↓Zg, ↓Zb, ↓Zc, ↓vdn, vup, Zk, Zo, Zn, Zi, Zh, List.map_cons, List.map_nil, cond_true, cond_false, aop, Zv, Zq, Zp, ev, sput, Zt, Zy, Ya, unK, Zd, Zw, Nat.reduceBEq, Nat.reduceAdd, Int.reduceBEq, Int.reduceBNe, Int.reduceLT, Zu, Zz, tup, tyf]
    refine hN20 [(0, v), (2, .bool false), (3, x1), (4, .int .i64 0), (5, Yb (Wj o : Nat)), (6, .int .i64 0)] _ _ ?_ (by simp (maxSteps := 2000000) only [↓Za, ↓Zj, ↓Zr, ↓Ze, ↓Zl, ↓Zs, ↓Zf, ↓Zm, ↓Zg, ↓Zb, ↓Zc, ↓vdn, vup, Zk, Zo, Zn, Zi, Zh, List.map_cons, List.map_nil, cond_true, cond_false, aop, Zv, Zq, Zp, ev, sput, Zt, Zy, Ya, unK, Zd, Zw, Nat.reduceBEq, Nat.reduceAdd, Int.reduceBEq, Int.reduceBNe, Int.reduceLT, Zu, Zz, tup, tyf])
    clear hN20
    try clear N20
    refine Yc fun N24 hN24 => ?_
    simp (maxSteps := 2000000) only [s15, ↓Za, ↓Zj, ↓Zr, ↓Ze, ↓Zl, ↓Zs, ↓Zf, ↓Zm, ↓Zg, ↓Zb, ↓Zc, ↓vdn, vup, Zk, Zo, Zn, Zi, Zh, List.map_cons, List.map_nil, cond_true, cond_false, aop, Zv, Zq, Zp, ev, sput, Zt, Zy, Ya, unK, Zd, Zw, Nat.reduceBEq, Nat.reduceAdd, Int.reduceBEq, Int.reduceBNe, Int.reduceLT, Zu, Zz, tup, tyf, Yr, List.nil_append, List.append_nil, List.toList_toArray, List.cons_append]
    refine (list_call hv2 hl).mono ?_
    rintro l3 _ ⟨hl3, g3, rfl⟩
    refine (ideals_call hl3 hl9 hx9).mono ?_
    rintro _ H ⟨hE3, x3, e3, rfl, hi3⟩
    replace hi3 := setsIs_take (L := fun o => setsL o (idl o)) hi3
    rw [SetsIs, ho, if_pos rfl] at hi3
    obtain ⟨rfl, hi3⟩ := hi3
    simp (maxSteps := 2000000) only [s15, ↓Za, ↓Zj, ↓Zr, ↓Ze, ↓Zl, ↓Zs, ↓Zf, ↓Zm, ↓Zg, ↓Zb, ↓Zc, ↓vdn, vup, Zk, Zo, Zn, Zi, Zh, List.map_cons, List.map_nil, cond_true, cond_false, aop, Zv, Zq, Zp, ev, sput, Zt, Zy, Ya, unK, Zd, Zw, Nat.reduceBEq, Nat.reduceAdd, Int.reduceBEq, Int.reduceBNe, Int.reduceLT, Zu, Zz, tup, tyf]
    refine hN24 [(0, v), (2, .bool false), (3, x1), (4, .int .i64 0), (5, Yb (Wj o : Nat)), (6, .int .i64 0), (7, x3), (8, .int .i64 0)] _ _ ?_ (by simp (maxSteps := 2000000) only [↓Za, ↓Zj, ↓Zr, ↓Ze, ↓Zl, ↓Zs, ↓Zf, ↓Zm, ↓Zg, ↓Zb, ↓Zc, ↓vdn, vup, Zk, Zo, Zn, Zi, Zh, List.map_cons, List.map_nil, cond_true, cond_false, aop, Zv, Zq, Zp, ev, sput, Zt, Zy, Ya, unK, Zd, Zw, Nat.reduceBEq, Nat.reduceAdd, Int.reduceBEq, Int.reduceBNe, Int.reduceLT, Zu, Zz, tup, tyf])
    clear hN24
    try clear N24
    have hE23 : Ext (fun _ => False) h2 H := (Ext.app _ _ g3).trans hE3
    have hvH := Wc hv2 hE23
    have hw1 : IntSl H x1 (iL L) := Wc hi1.int (hE12.trans hE23)
    refine Yu fun M hM => ?_
    refine Yc fun N25 hN25 => ?_
    simp only [q15_4]
    refine Wl 3 fun N1 hN1 => ?_
    simp (maxSteps := 2000000) only [s15, ↓Za, ↓Zj, ↓Zr, ↓Ze, ↓Zl, ↓Zs, ↓Zf, ↓Zm, ↓Zg, ↓Zb, ↓Zc, ↓vdn, vup, Zk, Zo, Zn, Zi, Zh, List.map_cons, List.map_nil, cond_true, cond_false, aop, Zv, Zq, Zp, ev, sput, Zt, Zy, Ya, unK, Zd, Zw, Nat.reduceBEq, Nat.reduceAdd, Int.reduceBEq, Int.reduceBNe, Int.reduceLT, Zu, Zz, tup, tyf, List.take_succ_cons, List.take_zero, n00]
    refine hN1 _ _ ?_
    clear hN1 N1
    simp only [List.drop_succ_cons, List.drop_zero]
    simp (maxSteps := 2000000) only [s15, ↓Za, ↓Zj, ↓Zr, ↓Ze, ↓Zl, ↓Zs, ↓Zf, ↓Zm, ↓Zg, ↓Zb, ↓Zc, ↓vdn, vup, Zk, Zo, Zn, Zi, Zh, List.map_cons, List.map_nil, cond_true, cond_false, aop, Zv, Zq, Zp, ev, sput, Zt, Zy, Ya, unK, Zd, Zw, Nat.reduceBEq, Nat.reduceAdd, Int.reduceBEq, Int.reduceBNe, Int.reduceLT, Zu, Zz, tup, tyf, Yr, List.nil_append, List.append_nil, List.toList_toArray, List.cons_append]
    refine (rorder_call hvH hl hx).mono ?_
    rintro _ H ⟨rfl, rfl⟩
    rw [ho]
    simp (maxSteps := 2000000) only [s15, ↓Za, ↓Zj, ↓Zr, ↓Ze, ↓Zl, ↓Zs, ↓Zf, ↓Zm, ↓Zg, ↓Zb, ↓Zc, ↓vdn, vup, Zk, Zo, Zn, Zi, Zh, List.map_cons, List.map_nil, cond_true, cond_false, aop, Zv, Zq, Zp, ev, sput, Zt, Zy, Ya, unK, Zd, Zw, Nat.reduceBEq, Nat.reduceAdd, Int.reduceBEq, Int.reduceBNe, Int.reduceLT, Zu, Zz, tup, tyf, Bool.not_true]
    refine hN25 [(0, v), (2, .bool false), (3, x1), (4, .int .i64 0), (5, Yb (Wj o : Nat)), (6, .int .i64 0), (7, x3), (8, .int .i64 0), (35, .bool false)] _ _ ?_ (by simp (maxSteps := 2000000) only [↓Za, ↓Zj, ↓Zr, ↓Ze, ↓Zl, ↓Zs, ↓Zf, ↓Zm, ↓Zg, ↓Zb, ↓Zc, ↓vdn, vup, Zk, Zo, Zn, Zi, Zh, List.map_cons, List.map_nil, cond_true, cond_false, aop, Zv, Zq, Zp, ev, sput, Zt, Zy, Ya, unK, Zd, Zw, Nat.reduceBEq, Nat.reduceAdd, Int.reduceBEq, Int.reduceBNe, Int.reduceLT, Zu, Zz, tup, tyf])
    clear hN25
    try clear N25
    refine Xf rfl ?_
    refine Yj ?_
    simp (maxSteps := 2000000) only [s15, ↓Za, ↓Zj, ↓Zr, ↓Ze, ↓Zl, ↓Zs, ↓Zf, ↓Zm, ↓Zg, ↓Zb, ↓Zc, ↓vdn, vup, Zk, Zo, Zn, Zi, Zh, List.map_cons, List.map_nil, cond_true, cond_false, aop, Zv, Zq, Zp, ev, sput, Zt, Zy, Ya, unK, Zd, Zw, Nat.reduceBEq, Nat.reduceAdd, Int.reduceBEq, Int.reduceBNe, Int.reduceLT, Zu, Zz, tup, tyf]
    refine hM [(0, v), (2, .bool false), (3, x1), (4, .int .i64 0), (5, Yb (Wj o : Nat)), (6, .int .i64 0), (7, x3), (8, .int .i64 0)] _ _ ?_ (by simp (maxSteps := 2000000) only [↓Za, ↓Zj, ↓Zr, ↓Ze, ↓Zl, ↓Zs, ↓Zf, ↓Zm, ↓Zg, ↓Zb, ↓Zc, ↓vdn, vup, Zk, Zo, Zn, Zi, Zh, List.map_cons, List.map_nil, cond_true, cond_false, aop, Zv, Zq, Zp, ev, sput, Zt, Zy, Ya, unK, Zd, Zw, Nat.reduceBEq, Nat.reduceAdd, Int.reduceBEq, Int.reduceBNe, Int.reduceLT, Zu, Zz, tup, tyf])
    clear hM
    try clear M
    refine Yc fun N26 hN26 => ?_
    simp (maxSteps := 2000000) only [s15, ↓Za, ↓Zj, ↓Zr, ↓Ze, ↓Zl, ↓Zs, ↓Zf, ↓Zm, ↓Zg, ↓Zb, ↓Zc, ↓vdn, vup, Zk, Zo, Zn, Zi, Zh, List.map_cons, List.map_nil, cond_true, cond_false, aop, Zv, Zq, Zp, ev, sput, Zt, Zy, Ya, unK, Zd, Zw, Nat.reduceBEq, Nat.reduceAdd, Int.reduceBEq, Int.reduceBNe, Int.reduceLT, Zu, Zz, tup, tyf]
    refine hN26 [(0, v), (2, .bool false), (3, x1), (4, .int .i64 0), (5, Yb (Wj o : Nat)), (6, .int .i64 0), (7, x3), (8, .int .i64 0), (9, .int .i64 0)] _ _ ?_ (by simp (maxSteps := 2000000) only [↓Za, ↓Zj, ↓Zr, ↓Ze, ↓Zl, ↓Zs, ↓Zf, ↓Zm, ↓Zg, ↓Zb, ↓Zc, ↓vdn, vup, Zk, Zo, Zn, Zi, Zh, List.map_cons, List.map_nil, cond_true, cond_false, aop, Zv, Zq, Zp, ev, sput, Zt, Zy, Ya, unK, Zd, Zw, Nat.reduceBEq, Nat.reduceAdd, Int.reduceBEq, Int.reduceBNe, Int.reduceLT, Zu, Zz, tup, tyf])
    clear hN26
    try clear N26
    refine Yu fun Z hZ => ?_
    refine Yc fun N27 hN27 => ?_
    simp (maxSteps := 2000000) only [s15, ↓Za, ↓Zj, ↓Zr, ↓Ze, ↓Zl, ↓Zs, ↓Zf, ↓Zm, ↓Zg, ↓Zb, ↓Zc, ↓vdn, vup, Zk, Zo, Zn, Zi, Zh, List.map_cons, List.map_nil, cond_true, cond_false, aop, Zv, Zq, Zp, ev, sput, Zt, Zy, Ya, unK, Zd, Zw, Nat.reduceBEq, Nat.reduceAdd, Int.reduceBEq, Int.reduceBNe, Int.reduceLT, Zu, Zz, tup, tyf, hvH.len, hsh, Int.natCast_nonneg]
    refine hN27 [(0, v), (2, .bool false), (3, x1), (4, .int .i64 0), (5, Yb (Wj o : Nat)), (6, .int .i64 0), (7, x3), (8, .int .i64 0), (9, .int .i64 0), (53, Yb (2 ^ o.length : Nat)), (54, .int .i64 0)] _ _ ?_ (by simp (maxSteps := 2000000) only [↓Za, ↓Zj, ↓Zr, ↓Ze, ↓Zl, ↓Zs, ↓Zf, ↓Zm, ↓Zg, ↓Zb, ↓Zc, ↓vdn, vup, Zk, Zo, Zn, Zi, Zh, List.map_cons, List.map_nil, cond_true, cond_false, aop, Zv, Zq, Zp, ev, sput, Zt, Zy, Ya, unK, Zd, Zw, Nat.reduceBEq, Nat.reduceAdd, Int.reduceBEq, Int.reduceBNe, Int.reduceLT, Zu, Zz, tup, tyf])
    clear hN27
    try clear N27
    refine Yp ?_
    refine Yo fun Q hQ => ?_
    refine Wm (γ := Nat) (fun s => s ≤ 2 ^ o.length) (fun s => ([(0, v), (2, .bool false), (3, x1), (4, .int .i64 0), (5, Yb (Wj o : Nat)), (6, .int .i64 0), (7, x3), (8, .int .i64 0), (9, Yb (((List.range s).filter fun s => uni o s true).length : Nat)), (53, Yb (2 ^ o.length : Nat)), (54, Yb (s : Nat))], H)) (fun s => 2 ^ o.length - s) 0 (Nat.zero_le _) (by simp (maxSteps := 2000000) only [↓Za, ↓Zj, ↓Zr, ↓Ze, ↓Zl, ↓Zs, ↓Zf, ↓Zm, ↓Zg, ↓Zb, ↓Zc, ↓vdn, vup, Zk, Zo, Zn, Zi, Zh, List.map_cons, List.map_nil, cond_true, cond_false, aop, Zv, Zq, Zp, ev, sput, Zt, Zy, Ya, unK, Zd, Zw, Nat.reduceBEq, Nat.reduceAdd, Int.reduceBEq, Int.reduceBNe, Int.reduceLT, Zu, Zz, tup, tyf, Int.natCast_zero, List.range_zero, List.filter_nil, List.length_nil]) rfl ?_
    rintro s hs
    have hnx := setsL_len_succ (p := fun s => uni o s true) s
    have hfl := filter_len (fun s => uni o s true) s
    generalize hn : ((List.range s).filter fun s => uni o s true).length = n at hnx hfl ⊢
    refine Yo fun Q2 hQ2 => ?_
    simp only [l15_0]
    by_cases hin : (s : Int) < ((2 ^ o.length : Nat) : Int)
    · have hs' : s < 2 ^ o.length := by omega
      refine Yc fun N28 hN28 => ?_
      simp (maxSteps := 2000000) only [s15, ↓Za, ↓Zj, ↓Zr, ↓Ze, ↓Zl, ↓Zs, ↓Zf, ↓Zm, ↓Zg, ↓Zb, ↓Zc, ↓vdn, vup, Zk, Zo, Zn, Zi, Zh, List.map_cons, List.map_nil, cond_true, cond_false, aop, Zv, Zq, Zp, ev, sput, Zt, Zy, Ya, unK, Zd, Zw, Nat.reduceBEq, Nat.reduceAdd, Int.reduceBEq, Int.reduceBNe, Int.reduceLT, Zu, Zz, tup, tyf, hin]
      refine hN28 [(0, v), (2, .bool false), (3, x1), (4, .int .i64 0), (5, Yb (Wj o : Nat)), (6, .int .i64 0), (7, x3), (8, .int .i64 0), (9, Yb (n : Nat)), (53, Yb (2 ^ o.length : Nat)), (54, Yb (s : Nat)), (55, .bool true)] _ _ ?_ (by simp (maxSteps := 2000000) only [↓Za, ↓Zj, ↓Zr, ↓Ze, ↓Zl, ↓Zs, ↓Zf, ↓Zm, ↓Zg, ↓Zb, ↓Zc, ↓vdn, vup, Zk, Zo, Zn, Zi, Zh, List.map_cons, List.map_nil, cond_true, cond_false, aop, Zv, Zq, Zp, ev, sput, Zt, Zy, Ya, unK, Zd, Zw, Nat.reduceBEq, Nat.reduceAdd, Int.reduceBEq, Int.reduceBNe, Int.reduceLT, Zu, Zz, tup, tyf])
      clear hN28
      try clear N28
      refine Yc fun N29 hN29 => ?_
      simp (maxSteps := 2000000) only [s15, ↓Za, ↓Zj, ↓Zr, ↓Ze, ↓Zl, ↓Zs, ↓Zf, ↓Zm, ↓Zg, ↓Zb, ↓Zc, ↓vdn, vup, Zk, Zo, Zn, Zi, Zh, List.map_cons, List.map_nil, cond_true, cond_false, aop, Zv, Zq, Zp, ev, sput, Zt, Zy, Ya, unK, Zd, Zw, Nat.reduceBEq, Nat.reduceAdd, Int.reduceBEq, Int.reduceBNe, Int.reduceLT, Zu, Zz, tup, tyf]
      refine hN29 [(0, v), (2, .bool false), (3, x1), (4, .int .i64 0), (5, Yb (Wj o : Nat)), (6, .int .i64 0), (7, x3), (8, .int .i64 0), (9, Yb (n : Nat)), (53, Yb (2 ^ o.length : Nat)), (54, Yb (s : Nat))] _ _ ?_ (by simp (maxSteps := 2000000) only [↓Za, ↓Zj, ↓Zr, ↓Ze, ↓Zl, ↓Zs, ↓Zf, ↓Zm, ↓Zg, ↓Zb, ↓Zc, ↓vdn, vup, Zk, Zo, Zn, Zi, Zh, List.map_cons, List.map_nil, cond_true, cond_false, aop, Zv, Zq, Zp, ev, sput, Zt, Zy, Ya, unK, Zd, Zw, Nat.reduceBEq, Nat.reduceAdd, Int.reduceBEq, Int.reduceBNe, Int.reduceLT, Zu, Zz, tup, tyf])
      clear hN29
      try clear N29
      refine Yu fun B hB => ?_
      refine Yp ?_
      refine Yc fun N30 hN30 => ?_
      simp (maxSteps := 2000000) only [s15, ↓Za, ↓Zj, ↓Zr, ↓Ze, ↓Zl, ↓Zs, ↓Zf, ↓Zm, ↓Zg, ↓Zb, ↓Zc, ↓vdn, vup, Zk, Zo, Zn, Zi, Zh, List.map_cons, List.map_nil, cond_true, cond_false, aop, Zv, Zq, Zp, ev, sput, Zt, Zy, Ya, unK, Zd, Zw, Nat.reduceBEq, Nat.reduceAdd, Int.reduceBEq, Int.reduceBNe, Int.reduceLT, Zu, Zz, tup, tyf]
      refine hN30 [(0, v), (2, .bool false), (3, x1), (4, .int .i64 0), (5, Yb (Wj o : Nat)), (6, .int .i64 0), (7, x3), (8, .int .i64 0), (9, Yb (n : Nat)), (10, Yb (s : Nat)), (53, Yb (2 ^ o.length : Nat)), (54, Yb (s : Nat))] _ _ ?_ (by simp (maxSteps := 2000000) only [↓Za, ↓Zj, ↓Zr, ↓Ze, ↓Zl, ↓Zs, ↓Zf, ↓Zm, ↓Zg, ↓Zb, ↓Zc, ↓vdn, vup, Zk, Zo, Zn, Zi, Zh, List.map_cons, List.map_nil, cond_true, cond_false, aop, Zv, Zq, Zp, ev, sput, Zt, Zy, Ya, unK, Zd, Zw, Nat.reduceBEq, Nat.reduceAdd, Int.reduceBEq, Int.reduceBNe, Int.reduceLT, Zu, Zz, tup, tyf])
      clear hN30
      try clear N30
      refine Yc fun N31 hN31 => ?_
      simp (maxSteps := 2000000) only [s15, ↓Za, ↓Zj, ↓Zr, ↓Ze, ↓Zl, ↓Zs, ↓Zf, ↓Zm, ↓Zg, ↓Zb, ↓Zc, ↓vdn, vup, Zk, Zo, Zn, Zi, Zh, List.map_cons, List.map_nil, cond_true, cond_false, aop, Zv, Zq, Zp, ev, sput, Zt, Zy, Ya, unK, Zd, Zw, Nat.reduceBEq, Nat.reduceAdd, Int.reduceBEq, Int.reduceBNe, Int.reduceLT, Zu, Zz, tup, tyf, Yr, List.nil_append, List.append_nil, List.toList_toArray, List.cons_append]
      refine (ranti_call hvH ho hs').mono ?_
      rintro _ H ⟨rfl, rfl⟩
      refine hN31 [(0, v), (2, .bool false), (3, x1), (4, .int .i64 0), (5, Yb (Wj o : Nat)), (6, .int .i64 0), (7, x3), (8, .int .i64 0), (9, Yb (n : Nat)), (10, Yb (s : Nat)), (53, Yb (2 ^ o.length : Nat)), (54, Yb (s : Nat)), (59, .bool (uni o s true))] _ _ ?_ (by simp (maxSteps := 2000000) only [↓Za, ↓Zj, ↓Zr, ↓Ze, ↓Zl, ↓Zs, ↓Zf, ↓Zm, ↓Zg, ↓Zb, ↓Zc, ↓vdn, vup, Zk, Zo, Zn, Zi, Zh, List.map_cons, List.map_nil, cond_true, cond_false, aop, Zv, Zq, Zp, ev, sput, Zt, Zy, Ya, unK, Zd, Zw, Nat.reduceBEq, Nat.reduceAdd, Int.reduceBEq, Int.reduceBNe, Int.reduceLT, Zu, Zz, tup, tyf])
      clear hN31
      try clear N31
      cases hu : uni o s true with
      | true =>
        rw [hu, if_pos rfl] at hnx
        refine Ws rfl ?_
        refine Yj ?_
        simp (maxSteps := 2000000) only [s15, ↓Za, ↓Zj, ↓Zr, ↓Ze, ↓Zl, ↓Zs, ↓Zf, ↓Zm, ↓Zg, ↓Zb, ↓Zc, ↓vdn, vup, Zk, Zo, Zn, Zi, Zh, List.map_cons, List.map_nil, cond_true, cond_false, aop, Zv, Zq, Zp, ev, sput, Zt, Zy, Ya, unK, Zd, Zw, Nat.reduceBEq, Nat.reduceAdd, Int.reduceBEq, Int.reduceBNe, Int.reduceLT, Zu, Zz, tup, tyf, add1 (show n < 9223372036854775807 by omega)]
        refine hB [(0, v), (2, .bool false), (3, x1), (4, .int .i64 0), (5, Yb (Wj o : Nat)), (6, .int .i64 0), (7, x3), (8, .int .i64 0), (9, Yb (n + 1 : Nat)), (53, Yb (2 ^ o.length : Nat)), (54, Yb (s : Nat))] _ _ ?_ (by simp (maxSteps := 2000000) only [↓Za, ↓Zj, ↓Zr, ↓Ze, ↓Zl, ↓Zs, ↓Zf, ↓Zm, ↓Zg, ↓Zb, ↓Zc, ↓vdn, vup, Zk, Zo, Zn, Zi, Zh, List.map_cons, List.map_nil, cond_true, cond_false, aop, Zv, Zq, Zp, ev, sput, Zt, Zy, Ya, unK, Zd, Zw, Nat.reduceBEq, Nat.reduceAdd, Int.reduceBEq, Int.reduceBNe, Int.reduceLT, Zu, Zz, tup, tyf])
        clear hB
        try clear B
        refine Yj ?_
        simp (maxSteps := 2000000) only [s15, ↓Za, ↓Zj, ↓Zr, ↓Ze, ↓Zl, ↓Zs, ↓Zf, ↓Zm, ↓Zg, ↓Zb, ↓Zc, ↓vdn, vup, Zk, Zo, Zn, Zi, Zh, List.map_cons, List.map_nil, cond_true, cond_false, aop, Zv, Zq, Zp, ev, sput, Zt, Zy, Ya, unK, Zd, Zw, Nat.reduceBEq, Nat.reduceAdd, Int.reduceBEq, Int.reduceBNe, Int.reduceLT, Zu, Zz, tup, tyf, add1 (show s < 9223372036854775807 by omega)]
        exact hQ2 _ _ _ ⟨s + 1, hs', by omega, by simp (maxSteps := 2000000) only [↓Za, ↓Zj, ↓Zr, ↓Ze, ↓Zl, ↓Zs, ↓Zf, ↓Zm, ↓Zg, ↓Zb, ↓Zc, ↓vdn, vup, Zk, Zo, Zn, Zi, Zh, List.map_cons, List.map_nil, cond_true, cond_false, aop, Zv, Zq, Zp, ev, sput, Zt, Zy, Ya, unK, Zd, Zw, Nat.reduceBEq, Nat.reduceAdd, Int.reduceBEq, Int.reduceBNe, Int.reduceLT, Zu, Zz, tup, tyf, hnx], rfl⟩
      | false =>
        replace hnx : ((List.range (s + 1)).filter fun s => uni o s true).length = n := by rw [hnx, hu]; rfl
        refine Xf rfl ?_
        refine Yj ?_
        simp (maxSteps := 2000000) only [s15, ↓Za, ↓Zj, ↓Zr, ↓Ze, ↓Zl, ↓Zs, ↓Zf, ↓Zm, ↓Zg, ↓Zb, ↓Zc, ↓vdn, vup, Zk, Zo, Zn, Zi, Zh, List.map_cons, List.map_nil, cond_true, cond_false, aop, Zv, Zq, Zp, ev, sput, Zt, Zy, Ya, unK, Zd, Zw, Nat.reduceBEq, Nat.reduceAdd, Int.reduceBEq, Int.reduceBNe, Int.reduceLT, Zu, Zz, tup, tyf]
        refine hB [(0, v), (2, .bool false), (3, x1), (4, .int .i64 0), (5, Yb (Wj o : Nat)), (6, .int .i64 0), (7, x3), (8, .int .i64 0), (9, Yb (n : Nat)), (53, Yb (2 ^ o.length : Nat)), (54, Yb (s : Nat))] _ _ ?_ (by simp (maxSteps := 2000000) only [↓Za, ↓Zj, ↓Zr, ↓Ze, ↓Zl, ↓Zs, ↓Zf, ↓Zm, ↓Zg, ↓Zb, ↓Zc, ↓vdn, vup, Zk, Zo, Zn, Zi, Zh, List.map_cons, List.map_nil, cond_true, cond_false, aop, Zv, Zq, Zp, ev, sput, Zt, Zy, Ya, unK, Zd, Zw, Nat.reduceBEq, Nat.reduceAdd, Int.reduceBEq, Int.reduceBNe, Int.reduceLT, Zu, Zz, tup, tyf])
        clear hB
        try clear B
        refine Yj ?_
        simp (maxSteps := 2000000) only [s15, ↓Za, ↓Zj, ↓Zr, ↓Ze, ↓Zl, ↓Zs, ↓Zf, ↓Zm, ↓Zg, ↓Zb, ↓Zc, ↓vdn, vup, Zk, Zo, Zn, Zi, Zh, List.map_cons, List.map_nil, cond_true, cond_false, aop, Zv, Zq, Zp, ev, sput, Zt, Zy, Ya, unK, Zd, Zw, Nat.reduceBEq, Nat.reduceAdd, Int.reduceBEq, Int.reduceBNe, Int.reduceLT, Zu, Zz, tup, tyf, add1 (show s < 9223372036854775807 by omega)]
        exact hQ2 _ _ _ ⟨s + 1, hs', by omega, by simp (maxSteps := 2000000) only [↓Za, ↓Zj, ↓Zr, ↓Ze, ↓Zl, ↓Zs, ↓Zf, ↓Zm, ↓Zg, ↓Zb, ↓Zc, ↓vdn, vup, Zk, Zo, Zn, Zi, Zh, List.map_cons, List.map_nil, cond_true, cond_false, aop, Zv, Zq, Zp, ev, sput, Zt, Zy, Ya, unK, Zd, Zw, Nat.reduceBEq, Nat.reduceAdd, Int.reduceBEq, Int.reduceBNe, Int.reduceLT, Zu, Zz, tup, tyf, hnx], rfl⟩
    · obtain rfl : s = 2 ^ o.length := by omega
      refine Yc fun N32 hN32 => ?_
      simp (maxSteps := 2000000) only [s15, ↓Za, ↓Zj, ↓Zr, ↓Ze, ↓Zl, ↓Zs, ↓Zf, ↓Zm, ↓Zg, ↓Zb, ↓Zc, ↓vdn, vup, Zk, Zo, Zn, Zi, Zh, List.map_cons, List.map_nil, cond_true, cond_false, aop, Zv, Zq, Zp, ev, sput, Zt, Zy, Ya, unK, Zd, Zw, Nat.reduceBEq, Nat.reduceAdd, Int.reduceBEq, Int.reduceBNe, Int.reduceLT, Zu, Zz, tup, tyf, hin]
      refine hN32 [(0, v), (2, .bool false), (3, x1), (4, .int .i64 0), (5, Yb (Wj o : Nat)), (6, .int .i64 0), (7, x3), (8, .int .i64 0), (9, Yb (n : Nat)), (53, Yb (2 ^ o.length : Nat)), (54, Yb (2 ^ o.length : Nat)), (55, .bool false)] _ _ ?_ (by simp (maxSteps := 2000000) only [↓Za, ↓Zj, ↓Zr, ↓Ze, ↓Zl, ↓Zs, ↓Zf, ↓Zm, ↓Zg, ↓Zb, ↓Zc, ↓vdn, vup, Zk, Zo, Zn, Zi, Zh, List.map_cons, List.map_nil, cond_true, cond_false, aop, Zv, Zq, Zp, ev, sput, Zt, Zy, Ya, unK, Zd, Zw, Nat.reduceBEq, Nat.reduceAdd, Int.reduceBEq, Int.reduceBNe, Int.reduceLT, Zu, Zz, tup, tyf])
      clear hN32
      try clear N32
      refine Yc fun N33 hN33 => ?_
      simp (maxSteps := 2000000) only [s15, ↓Za, ↓Zj, ↓Zr, ↓Ze, ↓Zl, ↓Zs, ↓Zf, ↓Zm, ↓Zg, ↓Zb, ↓Zc, ↓vdn, vup, Zk, Zo, Zn, Zi, Zh, List.map_cons, List.map_nil, cond_true, cond_false, aop, Zv, Zq, Zp, ev, sput, Zt, Zy, Ya, unK, Zd, Zw, Nat.reduceBEq, Nat.reduceAdd, Int.reduceBEq, Int.reduceBNe, Int.reduceLT, Zu, Zz, tup, tyf]
      refine hQ2 _ _ _ (hQ _ _ _ ?_)
      simp (maxSteps := 2000000) only [s15, ↓Za, ↓Zj, ↓Zr, ↓Ze, ↓Zl, ↓Zs, ↓Zf, ↓Zm, ↓Zg, ↓Zb, ↓Zc, ↓vdn, vup, Zk, Zo, Zn, Zi, Zh, List.map_cons, List.map_nil, cond_true, cond_false, aop, Zv, Zq, Zp, ev, sput, Zt, Zy, Ya, unK, Zd, Zw, Nat.reduceBEq, Nat.reduceAdd, Int.reduceBEq, Int.reduceBNe, Int.reduceLT, Zu, Zz, tup, tyf, if_true]
      refine hZ [(0, v), (2, .bool false), (3, x1), (4, .int .i64 0), (5, Yb (Wj o : Nat)), (6, .int .i64 0), (7, x3), (8, .int .i64 0), (9, Yb (n : Nat))] _ _ ?_ (by simp (maxSteps := 2000000) only [↓Za, ↓Zj, ↓Zr, ↓Ze, ↓Zl, ↓Zs, ↓Zf, ↓Zm, ↓Zg, ↓Zb, ↓Zc, ↓vdn, vup, Zk, Zo, Zn, Zi, Zh, List.map_cons, List.map_nil, cond_true, cond_false, aop, Zv, Zq, Zp, ev, sput, Zt, Zy, Ya, unK, Zd, Zw, Nat.reduceBEq, Nat.reduceAdd, Int.reduceBEq, Int.reduceBNe, Int.reduceLT, Zu, Zz, tup, tyf])
      clear hZ
      try clear Z
      have hid : (setsL o (idl o)).length = n := by rw [ideals_anti ho, setsL, hn]
      have hw3 : IntSl H x3 (iL (setsL o (idl o))) := hi3.int
      have g1 : (0 : Int) < ((Wj o : Nat) : Int) := by have := anti_pos ho; omega
      have g2 : ((Wj o : Nat) : Int) < ((2 ^ o.length : Nat) : Int) := by omega
      have g3 : (((L.length : Nat) : Int) == (((Am.bits (Wj o)).length : Nat) : Int)) = true := by rw [hLl]; simp
      have g4 : ((((setsL o (idl o)).length : Nat) : Int) == ((n : Nat) : Int)) = true := by rw [hid]; simp
      refine Yc fun N34 hN34 => ?_
      simp only [q15_13]
      refine Wl 7 fun N1 hN1 => ?_
      simp (maxSteps := 2000000) only [s15, ↓Za, ↓Zj, ↓Zr, ↓Ze, ↓Zl, ↓Zs, ↓Zf, ↓Zm, ↓Zg, ↓Zb, ↓Zc, ↓vdn, vup, Zk, Zo, Zn, Zi, Zh, List.map_cons, List.map_nil, cond_true, cond_false, aop, Zv, Zq, Zp, ev, sput, Zt, Zy, Ya, unK, Zd, Zw, Nat.reduceBEq, Nat.reduceAdd, Int.reduceBEq, Int.reduceBNe, Int.reduceLT, Zu, Zz, tup, tyf, List.take_succ_cons, List.take_zero, z00]
      refine hN1 _ _ ?_
      clear hN1 N1
      simp only [List.drop_succ_cons, List.drop_zero]
      refine Wl 4 fun N1 hN1 => ?_
      simp (maxSteps := 2000000) only [s15, ↓Za, ↓Zj, ↓Zr, ↓Ze, ↓Zl, ↓Zs, ↓Zf, ↓Zm, ↓Zg, ↓Zb, ↓Zc, ↓vdn, vup, Zk, Zo, Zn, Zi, Zh, List.map_cons, List.map_nil, cond_true, cond_false, aop, Zv, Zq, Zp, ev, sput, Zt, Zy, Ya, unK, Zd, Zw, Nat.reduceBEq, Nat.reduceAdd, Int.reduceBEq, Int.reduceBNe, Int.reduceLT, Zu, Zz, tup, tyf, List.take_succ_cons, List.take_zero, gt_iff_lt, g1, decide_true]
      refine hN1 _ _ ?_
      clear hN1 N1
      simp only [List.drop_succ_cons, List.drop_zero]
      refine Wl 7 fun N1 hN1 => ?_
      simp (maxSteps := 2000000) only [s15, ↓Za, ↓Zj, ↓Zr, ↓Ze, ↓Zl, ↓Zs, ↓Zf, ↓Zm, ↓Zg, ↓Zb, ↓Zc, ↓vdn, vup, Zk, Zo, Zn, Zi, Zh, List.map_cons, List.map_nil, cond_true, cond_false, aop, Zv, Zq, Zp, ev, sput, Zt, Zy, Ya, unK, Zd, Zw, Nat.reduceBEq, Nat.reduceAdd, Int.reduceBEq, Int.reduceBNe, Int.reduceLT, Zu, Zz, tup, tyf, List.take_succ_cons, List.take_zero, hvH.len, hsh, g2, decide_true, Int.natCast_nonneg]
      refine hN1 _ _ ?_
      clear hN1 N1
      simp only [List.drop_succ_cons, List.drop_zero]
      refine Wl 5 fun N1 hN1 => ?_
      simp (maxSteps := 2000000) only [s15, ↓Za, ↓Zj, ↓Zr, ↓Ze, ↓Zl, ↓Zs, ↓Zf, ↓Zm, ↓Zg, ↓Zb, ↓Zc, ↓vdn, vup, Zk, Zo, Zn, Zi, Zh, List.map_cons, List.map_nil, cond_true, cond_false, aop, Zv, Zq, Zp, ev, sput, Zt, Zy, Ya, unK, Zd, Zw, Nat.reduceBEq, Nat.reduceAdd, Int.reduceBEq, Int.reduceBNe, Int.reduceLT, Zu, Zz, tup, tyf, Yr, List.nil_append, List.append_nil, List.toList_toArray, List.cons_append, List.take_succ_cons, List.take_zero]
      refine (ranti_call hvH ho ha1).mono ?_
      rintro _ H ⟨rfl, rfl⟩
      rw [ha2]
      try simp (maxSteps := 2000000) only [s15, ↓Za, ↓Zj, ↓Zr, ↓Ze, ↓Zl, ↓Zs, ↓Zf, ↓Zm, ↓Zg, ↓Zb, ↓Zc, ↓vdn, vup, Zk, Zo, Zn, Zi, Zh, List.map_cons, List.map_nil, cond_true, cond_false, aop, Zv, Zq, Zp, ev, sput, Zt, Zy, Ya, unK, Zd, Zw, Nat.reduceBEq, Nat.reduceAdd, Int.reduceBEq, Int.reduceBNe, Int.reduceLT, Zu, Zz, tup, tyf]
      refine hN1 _ _ ?_
      clear hN1 N1
      simp only [List.drop_succ_cons, List.drop_zero]
      refine Wl 7 fun N1 hN1 => ?_
      simp (maxSteps := 2000000) only [s15, ↓Za, ↓Zj, ↓Zr, ↓Ze, ↓Zl, ↓Zs, ↓Zf, ↓Zm, ↓Zg, ↓Zb, ↓Zc, ↓vdn, vup, Zk, Zo, Zn, Zi, Zh, List.map_cons, List.map_nil, cond_true, cond_false, aop, Zv, Zq, Zp, ev, sput, Zt, Zy, Ya, unK, Zd, Zw, Nat.reduceBEq, Nat.reduceAdd, Int.reduceBEq, Int.reduceBNe, Int.reduceLT, Zu, Zz, tup, tyf, Yr, List.nil_append, List.append_nil, List.toList_toArray, List.cons_append, List.take_succ_cons, List.take_zero, hw1.len, iL_len]
      refine (size_call (show Wj o < 9223372036854775808 by omega)).mono ?_
      rintro _ H ⟨rfl, rfl⟩
      simp (maxSteps := 2000000) only [s15, ↓Za, ↓Zj, ↓Zr, ↓Ze, ↓Zl, ↓Zs, ↓Zf, ↓Zm, ↓Zg, ↓Zb, ↓Zc, ↓vdn, vup, Zk, Zo, Zn, Zi, Zh, List.map_cons, List.map_nil, cond_true, cond_false, aop, Zv, Zq, Zp, ev, sput, Zt, Zy, Ya, unK, Zd, Zw, Nat.reduceBEq, Nat.reduceAdd, Int.reduceBEq, Int.reduceBNe, Int.reduceLT, Zu, Zz, tup, tyf, g3]
      refine hN1 _ _ ?_
      clear hN1 N1
      simp only [List.drop_succ_cons, List.drop_zero]
      refine Wl 6 fun N1 hN1 => ?_
      simp (maxSteps := 2000000) only [s15, ↓Za, ↓Zj, ↓Zr, ↓Ze, ↓Zl, ↓Zs, ↓Zf, ↓Zm, ↓Zg, ↓Zb, ↓Zc, ↓vdn, vup, Zk, Zo, Zn, Zi, Zh, List.map_cons, List.map_nil, cond_true, cond_false, aop, Zv, Zq, Zp, ev, sput, Zt, Zy, Ya, unK, Zd, Zw, Nat.reduceBEq, Nat.reduceAdd, Int.reduceBEq, Int.reduceBNe, Int.reduceLT, Zu, Zz, tup, tyf, List.take_succ_cons, List.take_zero, hw3.len, iL_len, g4]
      refine hN1 _ _ ?_
      clear hN1 N1
      simp only [List.drop_succ_cons, List.drop_zero]
      simp (maxSteps := 2000000) only [s15, ↓Za, ↓Zj, ↓Zr, ↓Ze, ↓Zl, ↓Zs, ↓Zf, ↓Zm, ↓Zg, ↓Zb, ↓Zc, ↓vdn, vup, Zk, Zo, Zn, Zi, Zh, List.map_cons, List.map_nil, cond_true, cond_false, aop, Zv, Zq, Zp, ev, sput, Zt, Zy, Ya, unK, Zd, Zw, Nat.reduceBEq, Nat.reduceAdd, Int.reduceBEq, Int.reduceBNe, Int.reduceLT, Zu, Zz, tup, tyf, Yr, List.nil_append, List.append_nil, List.toList_toArray, List.cons_append]
      refine (awake_call).mono ?_
      rintro _ H ⟨rfl, rfl⟩
      refine hN34 [(0, v), (2, .bool true), (3, x1), (4, .int .i64 0), (5, Yb (Wj o : Nat)), (6, .int .i64 0), (7, x3), (8, .int .i64 0), (9, Yb (n : Nat))] _ _ ?_ (by simp (maxSteps := 2000000) only [↓Za, ↓Zj, ↓Zr, ↓Ze, ↓Zl, ↓Zs, ↓Zf, ↓Zm, ↓Zg, ↓Zb, ↓Zc, ↓vdn, vup, Zk, Zo, Zn, Zi, Zh, List.map_cons, List.map_nil, cond_true, cond_false, aop, Zv, Zq, Zp, ev, sput, Zt, Zy, Ya, unK, Zd, Zw, Nat.reduceBEq, Nat.reduceAdd, Int.reduceBEq, Int.reduceBNe, Int.reduceLT, Zu, Zz, tup, tyf])
      clear hN34
      try clear N34
      refine Yj ?_
      simp (maxSteps := 2000000) only [s15, ↓Za, ↓Zj, ↓Zr, ↓Ze, ↓Zl, ↓Zs, ↓Zf, ↓Zm, ↓Zg, ↓Zb, ↓Zc, ↓vdn, vup, Zk, Zo, Zn, Zi, Zh, List.map_cons, List.map_nil, cond_true, cond_false, aop, Zv, Zq, Zp, ev, sput, Zt, Zy, Ya, unK, Zd, Zw, Nat.reduceBEq, Nat.reduceAdd, Int.reduceBEq, Int.reduceBNe, Int.reduceLT, Zu, Zz, tup, tyf]
end Go.Proofs.Tryd.Am

/-
  order: the reference's Real.
  order: law Reals.
-/
import Derived.Test.YtnjacpfahhjpiaaDoorPk9
set_option linter.all false
namespace Go.Proofs.Tryd.Am
open Go.Am Ord
set_option maxRecDepth 100000
set_option maxHeartbeats 4000000

theorem real_hit0 {o : List Int} {s : Nat} {q : List Nat} (h : Yr (sepB o) (cn o) 0 s = none) (hq : srch (sepB o) (cn o) 0 (s + 1) 0 [] = some q) (hs : s < 3) : realL o = q := by
  have h1 : Yr (sepB o) (cn o) 0 (s + 1) = some q := by rw [Yr, h, hq]; rfl
  rw [shortest_weak (sepB_mem o)] at h1
  have h3 : Yr (sepB o) (cn o) 1 3 = some q := by
    have : s = 0 ∨ s = 1 ∨ s = 2 := by omega
    rcases this with rfl | rfl | rfl
    · exact Vj (Vj h1)
    · exact Vj h1
    · exact h1
  rw [realL, h3]; rfl
/-- Rows ahead of i are through, row i for those below j. -/
def lft (o : List Int) (i j x : Nat) : Nat := msk ((List.range o.length).filter fun k => fr o x k && (decide (x < i) || decide (x = i) && decide (k < j)))
theorem lft_bit {o : List Int} {i j x k : Nat} : (lft o i j x).testBit k = true ↔ k < o.length ∧ (fr o x k && (decide (x < i) || decide (x = i) && decide (k < j))) = true := by
  rw [lft, msk_bit, List.mem_filter, List.mem_range]
theorem lft_zero (o : List Int) (x : Nat) : lft o 0 0 x = 0 := by
  refine Nat.eq_of_testBit_eq fun k => ?_
  rw [Nat.zero_testBit, Bool.eq_false_iff]
  intro h
  have := (lft_bit.1 h).2
  simp at this
theorem lft_next (o : List Int) (i x : Nat) : lft o i o.length x = lft o (i + 1) 0 x := by
  refine Nat.eq_of_testBit_eq fun k => ?_
  rw [Bool.eq_iff_iff, lft_bit, lft_bit]
  simp only [Bool.and_eq_true, Bool.or_eq_true, decide_eq_true_eq]
  constructor
  · rintro ⟨h1, h2, h3⟩; exact ⟨h1, h2, .inl (by omega)⟩
  · rintro ⟨h1, h2, h3⟩; exact ⟨h1, h2, by omega⟩
theorem lft_all {o : List Int} {x : Nat} (hx : x < o.length) : lft o o.length 0 x = lfM o [] x := by
  rw [lft, lfM]
  refine congrArg msk (List.filter_congr fun k _ => ?_)
  simp [hx]
theorem lft_lt (o : List Int) (i j x : Nat) : lft o i j x < 2 ^ o.length := msk_lt fun a ha => List.mem_range.1 (List.mem_filter.1 ha).1
theorem lft_or {o : List Int} {i j : Nat} (hj : j < o.length) (hf : fr o i j = true) (x : Nat) : lft o i (j + 1) x = if x = i then lft o i j i ||| 2 ^ j else lft o i j x := by
  refine Nat.eq_of_testBit_eq fun k => ?_
  by_cases hx : x = i
  · subst hx
    rw [if_pos rfl, Nat.testBit_or, Bool.eq_iff_iff, Bool.or_eq_true, lft_bit, lft_bit, Nat.testBit_two_pow]
    simp only [Bool.and_eq_true, Bool.or_eq_true, decide_eq_true_eq, true_and, Nat.lt_irrefl, false_or, eq_self]
    constructor
    · rintro ⟨h1, h2, h3⟩
      by_cases hk : k = j
      · exact .inr hk.symm
      · exact .inl ⟨h1, h2, by omega⟩
    · rintro (⟨h1, h2, h3⟩ | rfl)
      · exact ⟨h1, h2, by omega⟩
      · exact ⟨hj, hf, by omega⟩
  · rw [if_neg hx, Bool.eq_iff_iff, lft_bit, lft_bit]
    simp only [hx, decide_false, Bool.false_and]
theorem lft_skip {o : List Int} {i j : Nat} (hf : fr o i j = false) (x : Nat) : lft o i (j + 1) x = lft o i j x := by
  refine Nat.eq_of_testBit_eq fun k => ?_
  rw [Bool.eq_iff_iff, lft_bit, lft_bit]
  simp only [Bool.and_eq_true, Bool.or_eq_true, decide_eq_true_eq]
  constructor
  · rintro ⟨h1, h2, h3⟩
    refine ⟨h1, h2, ?_⟩
    rcases h3 with h3 | ⟨h3, h4⟩
    · exact .inl h3
    · by_cases hk : k = j
      · rw [h3, hk, hf] at h2; cases h2
      · exact .inr ⟨h3, by omega⟩
  · rintro ⟨h1, h2, h3⟩; exact ⟨h1, h2, by omega⟩

theorem s46_callW [Tabs Tryd.prog] {args : List Value} {h : Yb} {Q : Value → Yb → Prop} (hsz : args.length ≤ 46) (hk : AWS Tryd.prog 46 s46 (Zu Tryd.prog [.tmp 2] Q) (Zp 0 args) h) : ACall Tryd.prog 46 args h Q :=
  acall_w Tryd.func46 rfl (enters_of Tryd.func46 (by kernel_rfl) rfl) rfl rfl (by decide) s46_strip s46_ok hsz hk
theorem rReal_call [Tabs prog] {h : Yb} {v : Value} {o : List Int} (hv : IntSl h v o) (ho : ord o = true) : ACall prog 46 [v] h fun r h' => Ext (fun _ => False) h h' ∧ RdL 3 h' r (realLL o) := by
  have hl := Xk ho
  have hp := pow6 hl.2
  have hmk : ∀ {K : Value → Yb → Prop}, makeK prog h 22 (Zx (o.length : Nat)) (Zx (o.length : Nat)) K = K (.slice (some ⟨h.length, 0, none⟩) o.length o.length) (h ++ [.ints (List.replicate o.length 0) 3 false]) := fun {K} => makeI Wk zero_3 info_3 (by omega) (by omega)
  obtain ⟨X, hXd⟩ : ∃ X : List Int → Yb, X = fun T => h ++ [Blk.ints T 3 false] := ⟨_, rfl⟩
  have hX0 : h ++ [.ints (List.replicate o.length 0) 3 false] = X (tbL o (lft o 0 0)) := by
    rw [hXd]
    simp only
    rw [tbL_congr (g := fun _ => 0) fun x _ => lft_zero o x]
    have : List.replicate o.length (0 : Int) = tbL o (fun _ => 0) := List.ext_getElem (by simp [tbL]) fun k h1 h2 => by simp [tbL]
    rw [this]
  have x1 : ∀ T, (X T)[h.length]? = some (.ints T 3 false) := fun T => by rw [hXd]; exact Yv _ _
  have xE : ∀ T, Ext (fun _ => False) h (X T) := fun T => by rw [hXd]; exact Ext.app _ _ _
  have xset : ∀ T T', (X T).set h.length (.ints T' 3 false) = X T' := fun T T' => by rw [hXd]; exact setEnd _ _ _
  have hvX : ∀ T : List Int, IntSl (X T) v o := fun T => Yt hv (xE T)
  obtain ⟨S, hS⟩ : ∃ S : Value, S = .slice (some ⟨h.length, 0, none⟩) o.length o.length := ⟨_, rfl⟩
  have hidx : ∀ {x : Nat} {K : Value → Prop}, x < o.length → Yp prog 22 S (Zx (x : Nat)) K = K (.pointer (some ⟨h.length, x, none⟩)) := fun {x K} hx => by rw [hS]; exact idxS Wk Xs hx
  refine s46_callW (by simp) ?_
  simp only [s46]
  refine Yc fun N1 hN1 => ?_
  simp (maxSteps := 2000000) only [s46, ↓Za, ↓Zm, ↓Zr, ↓Ze, ↓Zk, ↓Zs, ↓Zf, ↓Zi, ↓Zg, ↓Zc, ↓Zb, ↓vdn, vup, Zl, Zn, Zh, Zj, Zo, List.map_cons, List.map_nil, cond_true, cond_false, aop, Zv, Zq, Zp, ev, sput, Zt, Zy, Ya, unK, Zd, Zw, Nat.reduceBEq, Nat.reduceAdd, Int.reduceBEq, Int.reduceBNe, Int.reduceLT, Zu, Zz, tup, tyf]
  refine hN1 [(0, v), (2, .slice none 0 0)] _ _ ?_ (by simp (maxSteps := 2000000) only [↓Za, ↓Zm, ↓Zr, ↓Ze, ↓Zk, ↓Zs, ↓Zf, ↓Zi, ↓Zg, ↓Zc, ↓Zb, ↓vdn, vup, Zl, Zn, Zh, Zj, Zo, List.map_cons, List.map_nil, cond_true, cond_false, aop, Zv, Zq, Zp, ev, sput, Zt, Zy, Ya, unK, Zd, Zw, Nat.reduceBEq, Nat.reduceAdd, Int.reduceBEq, Int.reduceBNe, Int.reduceLT, Zu, Zz, tup, tyf])
  clear hN1
  try clear N1
  refine Yc fun N2 hN2 => ?_
  simp (maxSteps := 2000000) only [s46, ↓Za, ↓Zm, ↓Zr, ↓Ze, ↓Zk, ↓Zs, ↓Zf, ↓Zi, ↓Zg, ↓Zc, ↓Zb, ↓vdn, vup, Zl, Zn, Zh, Zj, Zo, List.map_cons, List.map_nil, cond_true, cond_false, aop, Zv, Zq, Zp, ev, sput, Zt, Zy, Ya, unK, Zd, Zw, Nat.reduceBEq, Nat.reduceAdd, Int.reduceBEq, Int.reduceBNe, Int.reduceLT, Zu, Zz, tup, tyf, hv.len, hmk]
  rw [hX0, ← hS]
  refine hN2 [(0, v), (2, .slice none 0 0), (3, S)] _ _ ?_ (by simp (maxSteps := 2000000) only [↓Za, ↓Zm, ↓Zr, ↓Ze, ↓Zk, ↓Zs, ↓Zf, ↓Zi, ↓Zg, ↓Zc, ↓Zb, ↓vdn, vup, Zl, Zn, Zh, Zj, Zo, List.map_cons, List.map_nil, cond_true, cond_false, aop, Zv, Zq, Zp, ev, sput, Zt, Zy, Ya, unK, Zd, Zw, Nat.reduceBEq, Nat.reduceAdd, Int.reduceBEq, Int.reduceBNe, Int.reduceLT, Zu, Zz, tup, tyf])
  clear hN2
  try clear N2
  clear hX0 hXd hmk
  refine Yh fun Z hZ => ?_
  refine Yc fun N3 hN3 => ?_
  simp (maxSteps := 2000000) only [s46, ↓Za, ↓Zm, ↓Zr, ↓Ze, ↓Zk, ↓Zs, ↓Zf, ↓Zi, ↓Zg, ↓Zc, ↓Zb, ↓vdn, vup, Zl, Zn, Zh, Zj, Zo, List.map_cons, List.map_nil, cond_true, cond_false, aop, Zv, Zq, Zp, ev, sput, Zt, Zy, Ya, unK, Zd, Zw, Nat.reduceBEq, Nat.reduceAdd, Int.reduceBEq, Int.reduceBNe, Int.reduceLT, Zu, Zz, tup, tyf, (hvX (tbL o (lft o 0 0))).len]
  refine hN3 [(0, v), (2, .slice none 0 0), (3, S), (12, Zx o.length), (13, .int .i64 0)] _ _ ?_ (by simp (maxSteps := 2000000) only [↓Za, ↓Zm, ↓Zr, ↓Ze, ↓Zk, ↓Zs, ↓Zf, ↓Zi, ↓Zg, ↓Zc, ↓Zb, ↓vdn, vup, Zl, Zn, Zh, Zj, Zo, List.map_cons, List.map_nil, cond_true, cond_false, aop, Zv, Zq, Zp, ev, sput, Zt, Zy, Ya, unK, Zd, Zw, Nat.reduceBEq, Nat.reduceAdd, Int.reduceBEq, Int.reduceBNe, Int.reduceLT, Zu, Zz, tup, tyf])
  clear hN3
  try clear N3
  refine Yk ?_
  refine Yf fun Q hQ => ?_
  refine Xt (γ := Nat) (fun i => i ≤ o.length) (fun i => ([(0, v), (2, .slice none 0 0), (3, S), (12, Zx o.length), (13, Zx (i : Nat))], X (tbL o (lft o i 0)))) (fun i => o.length - i) 0 (Nat.zero_le _) (by simp (maxSteps := 2000000) only [↓Za, ↓Zm, ↓Zr, ↓Ze, ↓Zk, ↓Zs, ↓Zf, ↓Zi, ↓Zg, ↓Zc, ↓Zb, ↓vdn, vup, Zl, Zn, Zh, Zj, Zo, List.map_cons, List.map_nil, cond_true, cond_false, aop, Zv, Zq, Zp, ev, sput, Zt, Zy, Ya, unK, Zd, Zw, Nat.reduceBEq, Nat.reduceAdd, Int.reduceBEq, Int.reduceBNe, Int.reduceLT, Zu, Zz, tup, tyf, Int.natCast_zero]) rfl ?_
  rintro i hi
  refine Yf fun Q2 hQ2 => ?_
  simp only [l46_1]
  by_cases hin : (i : Int) < o.length
  · have hi' : i < o.length := by omega
    refine Yc fun N4 hN4 => ?_
    simp (maxSteps := 2000000) only [s46, ↓Za, ↓Zm, ↓Zr, ↓Ze, ↓Zk, ↓Zs, ↓Zf, ↓Zi, ↓Zg, ↓Zc, ↓Zb, ↓vdn, vup, Zl, Zn, Zh, Zj, Zo, List.map_cons, List.map_nil, cond_true, cond_false, aop, Zv, Zq, Zp, ev, sput, Zt, Zy, Ya, unK, Zd, Zw, Nat.reduceBEq, Nat.reduceAdd, Int.reduceBEq, Int.reduceBNe, Int.reduceLT, Zu, Zz, tup, tyf, hin]
    refine hN4 [(0, v), (2, .slice none 0 0), (3, S), (12, Zx o.length), (13, Zx (i : Nat)), (14, .bool true)] _ _ ?_ (by simp (maxSteps := 2000000) only [↓Za, ↓Zm, ↓Zr, ↓Ze, ↓Zk, ↓Zs, ↓Zf, ↓Zi, ↓Zg, ↓Zc, ↓Zb, ↓vdn, vup, Zl, Zn, Zh, Zj, Zo, List.map_cons, List.map_nil, cond_true, cond_false, aop, Zv, Zq, Zp, ev, sput, Zt, Zy, Ya, unK, Zd, Zw, Nat.reduceBEq, Nat.reduceAdd, Int.reduceBEq, Int.reduceBNe, Int.reduceLT, Zu, Zz, tup, tyf])
    clear hN4
    try clear N4
    refine Yc fun N5 hN5 => ?_
    simp (maxSteps := 2000000) only [s46, ↓Za, ↓Zm, ↓Zr, ↓Ze, ↓Zk, ↓Zs, ↓Zf, ↓Zi, ↓Zg, ↓Zc, ↓Zb, ↓vdn, vup, Zl, Zn, Zh, Zj, Zo, List.map_cons, List.map_nil, cond_true, cond_false, aop, Zv, Zq, Zp, ev, sput, Zt, Zy, Ya, unK, Zd, Zw, Nat.reduceBEq, Nat.reduceAdd, Int.reduceBEq, Int.reduceBNe, Int.reduceLT, Zu, Zz, tup, tyf]
    refine hN5 [(0, v), (2, .slice none 0 0), (3, S), (12, Zx o.length), (13, Zx (i : Nat))] _ _ ?_ (by simp (maxSteps := 2000000) only [↓Za, ↓Zm, ↓Zr, ↓Ze, ↓Zk, ↓Zs, ↓Zf, ↓Zi, ↓Zg, ↓Zc, ↓Zb, ↓vdn, vup, Zl, Zn, Zh, Zj, Zo, List.map_cons, List.map_nil, cond_true, cond_false, aop, Zv, Zq, Zp, ev, sput, Zt, Zy, Ya, unK, Zd, Zw, Nat.reduceBEq, Nat.reduceAdd, Int.reduceBEq, Int.reduceBNe, Int.reduceLT, Zu, Zz, tup, tyf])
    clear hN5
    try clear N5
    refine Yh fun B hB => ?_
    refine Yk ?_
    refine Yc fun N6 hN6 => ?_
    simp (maxSteps := 2000000) only [s46, ↓Za, ↓Zm, ↓Zr, ↓Ze, ↓Zk, ↓Zs, ↓Zf, ↓Zi, ↓Zg, ↓Zc, ↓Zb, ↓vdn, vup, Zl, Zn, Zh, Zj, Zo, List.map_cons, List.map_nil, cond_true, cond_false, aop, Zv, Zq, Zp, ev, sput, Zt, Zy, Ya, unK, Zd, Zw, Nat.reduceBEq, Nat.reduceAdd, Int.reduceBEq, Int.reduceBNe, Int.reduceLT, Zu, Zz, tup, tyf]
    refine hN6 [(0, v), (2, .slice none 0 0), (3, S), (4, Zx (i : Nat)), (12, Zx o.length), (13, Zx (i : Nat))] _ _ ?_ (by simp (maxSteps := 2000000) only [↓Za, ↓Zm, ↓Zr, ↓Ze, ↓Zk, ↓Zs, ↓Zf, ↓Zi, ↓Zg, ↓Zc, ↓Zb, ↓vdn, vup, Zl, Zn, Zh, Zj, Zo, List.map_cons, List.map_nil, cond_true, cond_false, aop, Zv, Zq, Zp, ev, sput, Zt, Zy, Ya, unK, Zd, Zw, Nat.reduceBEq, Nat.reduceAdd, Int.reduceBEq, Int.reduceBNe, Int.reduceLT, Zu, Zz, tup, tyf])
    clear hN6
    try clear N6
    refine Yc fun N7 hN7 => ?_
    simp (maxSteps := 2000000) only [s46, ↓Za, ↓Zm, ↓Zr, ↓Ze, ↓Zk, ↓Zs, ↓Zf, ↓Zi, ↓Zg, ↓Zc, ↓Zb, ↓vdn, vup, Zl, Zn, Zh, Zj, Zo, List.map_cons, List.map_nil, cond_true, cond_false, aop, Zv, Zq, Zp, ev, sput, Zt, Zy, Ya, unK, Zd, Zw, Nat.reduceBEq, Nat.reduceAdd, Int.reduceBEq, Int.reduceBNe, Int.reduceLT, Zu, Zz, tup, tyf, (hvX (tbL o (lft o i 0))).len]
    refine hN7 [(0, v), (2, .slice none 0 0), (3, S), (4, Zx (i : Nat)), (12, Zx o.length), (13, Zx (i : Nat)), (17, Zx o.length), (18, .int .i64 0)] _ _ ?_ (by simp (maxSteps := 2000000) only [↓Za, ↓Zm, ↓Zr, ↓Ze, ↓Zk, ↓Zs, ↓Zf, ↓Zi, ↓Zg, ↓Zc, ↓Zb, ↓vdn, vup, Zl, Zn, Zh, Zj, Zo, List.map_cons, List.map_nil, cond_true, cond_false, aop, Zv, Zq, Zp, ev, sput, Zt, Zy, Ya, unK, Zd, Zw, Nat.reduceBEq, Nat.reduceAdd, Int.reduceBEq, Int.reduceBNe, Int.reduceLT, Zu, Zz, tup, tyf])
    clear hN7
    try clear N7
    refine Yk ?_
    refine Yf fun Qa hQa => ?_
    refine Xt (γ := Nat) (fun j => j ≤ o.length) (fun j => ([(0, v), (2, .slice none 0 0), (3, S), (4, Zx (i : Nat)), (12, Zx o.length), (13, Zx (i : Nat)), (17, Zx o.length), (18, Zx (j : Nat))], X (tbL o (lft o i j)))) (fun j => o.length - j) 0 (Nat.zero_le _) (by simp (maxSteps := 2000000) only [↓Za, ↓Zm, ↓Zr, ↓Ze, ↓Zk, ↓Zs, ↓Zf, ↓Zi, ↓Zg, ↓Zc, ↓Zb, ↓vdn, vup, Zl, Zn, Zh, Zj, Zo, List.map_cons, List.map_nil, cond_true, cond_false, aop, Zv, Zq, Zp, ev, sput, Zt, Zy, Ya, unK, Zd, Zw, Nat.reduceBEq, Nat.reduceAdd, Int.reduceBEq, Int.reduceBNe, Int.reduceLT, Zu, Zz, tup, tyf, Int.natCast_zero]) rfl ?_
    rintro j hj
    refine Yf fun Qb hQb => ?_
    simp only [l46_0]
    by_cases hjin : (j : Int) < o.length
    · have hj' : j < o.length := by omega
      refine Yc fun N8 hN8 => ?_
      simp (maxSteps := 2000000) only [s46, ↓Za, ↓Zm, ↓Zr, ↓Ze, ↓Zk, ↓Zs, ↓Zf, ↓Zi, ↓Zg, ↓Zc, ↓Zb, ↓vdn, vup, Zl, Zn, Zh, Zj, Zo, List.map_cons, List.map_nil, cond_true, cond_false, aop, Zv, Zq, Zp, ev, sput, Zt, Zy, Ya, unK, Zd, Zw, Nat.reduceBEq, Nat.reduceAdd, Int.reduceBEq, Int.reduceBNe, Int.reduceLT, Zu, Zz, tup, tyf, hjin]
      refine hN8 [(0, v), (2, .slice none 0 0), (3, S), (4, Zx (i : Nat)), (12, Zx o.length), (13, Zx (i : Nat)), (17, Zx o.length), (18, Zx (j : Nat)), (19, .bool true)] _ _ ?_ (by simp (maxSteps := 2000000) only [↓Za, ↓Zm, ↓Zr, ↓Ze, ↓Zk, ↓Zs, ↓Zf, ↓Zi, ↓Zg, ↓Zc, ↓Zb, ↓vdn, vup, Zl, Zn, Zh, Zj, Zo, List.map_cons, List.map_nil, cond_true, cond_false, aop, Zv, Zq, Zp, ev, sput, Zt, Zy, Ya, unK, Zd, Zw, Nat.reduceBEq, Nat.reduceAdd, Int.reduceBEq, Int.reduceBNe, Int.reduceLT, Zu, Zz, tup, tyf])
      clear hN8
      try clear N8
      refine Yc fun N9 hN9 => ?_
      simp (maxSteps := 2000000) only [s46, ↓Za, ↓Zm, ↓Zr, ↓Ze, ↓Zk, ↓Zs, ↓Zf, ↓Zi, ↓Zg, ↓Zc, ↓Zb, ↓vdn, vup, Zl, Zn, Zh, Zj, Zo, List.map_cons, List.map_nil, cond_true, cond_false, aop, Zv, Zq, Zp, ev, sput, Zt, Zy, Ya, unK, Zd, Zw, Nat.reduceBEq, Nat.reduceAdd, Int.reduceBEq, Int.reduceBNe, Int.reduceLT, Zu, Zz, tup, tyf]
      refine hN9 [(0, v), (2, .slice none 0 0), (3, S), (4, Zx (i : Nat)), (12, Zx o.length), (13, Zx (i : Nat)), (17, Zx o.length), (18, Zx (j : Nat))] _ _ ?_ (by simp (maxSteps := 2000000) only [↓Za, ↓Zm, ↓Zr, ↓Ze, ↓Zk, ↓Zs, ↓Zf, ↓Zi, ↓Zg, ↓Zc, ↓Zb, ↓vdn, vup, Zl, Zn, Zh, Zj, Zo, List.map_cons, List.map_nil, cond_true, cond_false, aop, Zv, Zq, Zp, ev, sput, Zt, Zy, Ya, unK, Zd, Zw, Nat.reduceBEq, Nat.reduceAdd, Int.reduceBEq, Int.reduceBNe, Int.reduceLT, Zu, Zz, tup, tyf])
      clear hN9
      try clear N9
      refine Yh fun D hD => ?_
      refine Yk ?_
      refine Yc fun N10 hN10 => ?_
      simp (maxSteps := 2000000) only [s46, ↓Za, ↓Zm, ↓Zr, ↓Ze, ↓Zk, ↓Zs, ↓Zf, ↓Zi, ↓Zg, ↓Zc, ↓Zb, ↓vdn, vup, Zl, Zn, Zh, Zj, Zo, List.map_cons, List.map_nil, cond_true, cond_false, aop, Zv, Zq, Zp, ev, sput, Zt, Zy, Ya, unK, Zd, Zw, Nat.reduceBEq, Nat.reduceAdd, Int.reduceBEq, Int.reduceBNe, Int.reduceLT, Zu, Zz, tup, tyf]
      refine hN10 [(0, v), (2, .slice none 0 0), (3, S), (4, Zx (i : Nat)), (5, Zx (j : Nat)), (12, Zx o.length), (13, Zx (i : Nat)), (17, Zx o.length), (18, Zx (j : Nat))] _ _ ?_ (by simp (maxSteps := 2000000) only [↓Za, ↓Zm, ↓Zr, ↓Ze, ↓Zk, ↓Zs, ↓Zf, ↓Zi, ↓Zg, ↓Zc, ↓Zb, ↓vdn, vup, Zl, Zn, Zh, Zj, Zo, List.map_cons, List.map_nil, cond_true, cond_false, aop, Zv, Zq, Zp, ev, sput, Zt, Zy, Ya, unK, Zd, Zw, Nat.reduceBEq, Nat.reduceAdd, Int.reduceBEq, Int.reduceBNe, Int.reduceLT, Zu, Zz, tup, tyf])
      clear hN10
      try clear N10
      refine Yc fun N11 hN11 => ?_
      simp (maxSteps := 2000000) only [s46, ↓Za, ↓Zm, ↓Zr, ↓Ze, ↓Zk, ↓Zs, ↓Zf, ↓Zi, ↓Zg, ↓Zc, ↓Zb, ↓vdn, vup, Zl, Zn, Zh, Zj, Zo, List.map_cons, List.map_nil, cond_true, cond_false, aop, Zv, Zq, Zp, ev, sput, Zt, Zy, Ya, unK, Zd, Zw, Nat.reduceBEq, Nat.reduceAdd, Int.reduceBEq, Int.reduceBNe, Int.reduceLT, Zu, Zz, tup, tyf, Xf, List.nil_append, List.append_nil, List.toList_toArray, List.cons_append]
      refine (rfree_call (hvX (tbL o (lft o i j))) ho (i := i) (j := j) hi' hj').mono ?_
      rintro _ _ ⟨rfl, rfl⟩
      refine hN11 [(0, v), (2, .slice none 0 0), (3, S), (4, Zx (i : Nat)), (5, Zx (j : Nat)), (12, Zx o.length), (13, Zx (i : Nat)), (17, Zx o.length), (18, Zx (j : Nat)), (24, .bool (fr o i j))] _ _ ?_ (by simp (maxSteps := 2000000) only [↓Za, ↓Zm, ↓Zr, ↓Ze, ↓Zk, ↓Zs, ↓Zf, ↓Zi, ↓Zg, ↓Zc, ↓Zb, ↓vdn, vup, Zl, Zn, Zh, Zj, Zo, List.map_cons, List.map_nil, cond_true, cond_false, aop, Zv, Zq, Zp, ev, sput, Zt, Zy, Ya, unK, Zd, Zw, Nat.reduceBEq, Nat.reduceAdd, Int.reduceBEq, Int.reduceBNe, Int.reduceLT, Zu, Zz, tup, tyf])
      clear hN11
      try clear N11
      cases hab : fr o i j with
      | true =>
        have hiT : i < (tbL o (lft o i j)).length := by rw [tbL_len]; exact hi'
        have hset2 : (tbL o (lft o i j)).set i ((lft o i j i ||| 2 ^ j : Nat) : Int) = tbL o (lft o i (j + 1)) := tbL_set fun x hx => lft_or hj' hab x
        have hor : Wm .or .i64 ((lft o i j i : Nat) : Int) (2 ^ j) = ((lft o i j i ||| 2 ^ j : Nat) : Int) := by
          have h1 := lft_lt o i j i
          have h2 : (2 : Nat) ^ j ≤ 2 ^ 6 := Nat.pow_le_pow_right (by decide) (by omega)
          have := bitsV_or (a := lft o i j i) (b := 2 ^ j) (by omega) (by omega)
          rw [Wt] at this; exact this
        refine Wu rfl ?_
        refine Yl ?_
        simp only [q46_9]
        refine Xx [] (by kernel_rfl) (by kernel_rfl) (by kernel_rfl) (by kernel_rfl) ?_
        simp (maxSteps := 2000000) only [s46, ↓Za, ↓Zm, ↓Zr, ↓Ze, ↓Zk, ↓Zs, ↓Zf, ↓Zi, ↓Zg, ↓Zc, ↓Zb, ↓vdn, vup, Zl, Zn, Zh, Zj, Zo, List.map_cons, List.map_nil, cond_true, cond_false, aop, Zv, Zq, Zp, ev, sput, Zt, Zy, Ya, unK, Zd, Zw, Nat.reduceBEq, Nat.reduceAdd, Int.reduceBEq, Int.reduceBNe, Int.reduceLT, Zu, Zz, tup, tyf, hidx hi', loadX (x1 (tbL o (lft o i j))) Xb hiT, tbL_get hi', shl1 (show j ≤ 62 by omega), hor, storeX (x1 (tbL o (lft o i j))) Xb hiT, hset2, xset]
        refine hD [(0, v), (2, .slice none 0 0), (3, S), (4, Zx (i : Nat)), (12, Zx o.length), (13, Zx (i : Nat)), (17, Zx o.length), (18, Zx (j : Nat))] _ _ ?_ (by simp (maxSteps := 2000000) only [↓Za, ↓Zm, ↓Zr, ↓Ze, ↓Zk, ↓Zs, ↓Zf, ↓Zi, ↓Zg, ↓Zc, ↓Zb, ↓vdn, vup, Zl, Zn, Zh, Zj, Zo, List.map_cons, List.map_nil, cond_true, cond_false, aop, Zv, Zq, Zp, ev, sput, Zt, Zy, Ya, unK, Zd, Zw, Nat.reduceBEq, Nat.reduceAdd, Int.reduceBEq, Int.reduceBNe, Int.reduceLT, Zu, Zz, tup, tyf])
        clear hD
        try clear D
        refine Yl ?_
        simp (maxSteps := 2000000) only [s46, ↓Za, ↓Zm, ↓Zr, ↓Ze, ↓Zk, ↓Zs, ↓Zf, ↓Zi, ↓Zg, ↓Zc, ↓Zb, ↓vdn, vup, Zl, Zn, Zh, Zj, Zo, List.map_cons, List.map_nil, cond_true, cond_false, aop, Zv, Zq, Zp, ev, sput, Zt, Zy, Ya, unK, Zd, Zw, Nat.reduceBEq, Nat.reduceAdd, Int.reduceBEq, Int.reduceBNe, Int.reduceLT, Zu, Zz, tup, tyf, add1 (show j < 9223372036854775807 by omega)]
        exact hQb _ _ _ ⟨j + 1, hj', by omega, by simp (maxSteps := 2000000) only [↓Za, ↓Zm, ↓Zr, ↓Ze, ↓Zk, ↓Zs, ↓Zf, ↓Zi, ↓Zg, ↓Zc, ↓Zb, ↓vdn, vup, Zl, Zn, Zh, Zj, Zo, List.map_cons, List.map_nil, cond_true, cond_false, aop, Zv, Zq, Zp, ev, sput, Zt, Zy, Ya, unK, Zd, Zw, Nat.reduceBEq, Nat.reduceAdd, Int.reduceBEq, Int.reduceBNe, Int.reduceLT, Zu, Zz, tup, tyf], rfl⟩
      | false =>
        rw [← tbL_congr (f := lft o i (j + 1)) (g := lft o i j) fun x _ => lft_skip hab x]
        refine Xy rfl ?_
        refine Yl ?_
        simp (maxSteps := 2000000) only [s46, ↓Za, ↓Zm, ↓Zr, ↓Ze, ↓Zk, ↓Zs, ↓Zf, ↓Zi, ↓Zg, ↓Zc, ↓Zb, ↓vdn, vup, Zl, Zn, Zh, Zj, Zo, List.map_cons, List.map_nil, cond_true, cond_false, aop, Zv, Zq, Zp, ev, sput, Zt, Zy, Ya, unK, Zd, Zw, Nat.reduceBEq, Nat.reduceAdd, Int.reduceBEq, Int.reduceBNe, Int.reduceLT, Zu, Zz, tup, tyf]
        refine hD [(0, v), (2, .slice none 0 0), (3, S), (4, Zx (i : Nat)), (12, Zx o.length), (13, Zx (i : Nat)), (17, Zx o.length), (18, Zx (j : Nat))] _ _ ?_ (by simp (maxSteps := 2000000) only [↓Za, ↓Zm, ↓Zr, ↓Ze, ↓Zk, ↓Zs, ↓Zf, ↓Zi, ↓Zg, ↓Zc, ↓Zb, ↓vdn, vup, Zl, Zn, Zh, Zj, Zo, List.map_cons, List.map_nil, cond_true, cond_false, aop, Zv, Zq, Zp, ev, sput, Zt, Zy, Ya, unK, Zd, Zw, Nat.reduceBEq, Nat.reduceAdd, Int.reduceBEq, Int.reduceBNe, Int.reduceLT, Zu, Zz, tup, tyf])
        clear hD
        try clear D
        refine Yl ?_
        simp (maxSteps := 2000000) only [s46, ↓Za, ↓Zm, ↓Zr, ↓Ze, ↓Zk, ↓Zs, ↓Zf, ↓Zi, ↓Zg, ↓Zc, ↓Zb, ↓vdn, vup, Zl, Zn, Zh, Zj, Zo, List.map_cons, List.map_nil, cond_true, cond_false, aop, Zv, Zq, Zp, ev, sput, Zt, Zy, Ya, unK, Zd, Zw, Nat.reduceBEq, Nat.reduceAdd, Int.reduceBEq, Int.reduceBNe, Int.reduceLT, Zu, Zz, tup, tyf, add1 (show j < 9223372036854775807 by omega)]
        exact hQb _ _ _ ⟨j + 1, hj', by omega, by simp (maxSteps := 2000000) only [↓Za, ↓Zm, ↓Zr, ↓Ze, ↓Zk, ↓Zs, ↓Zf, ↓Zi, ↓Zg, ↓Zc, ↓Zb, ↓vdn, vup, Zl, Zn, Zh, Zj, Zo, List.map_cons, List.map_nil, cond_true, cond_false, aop, Zv, Zq, Zp, ev, sput, Zt, Zy, Ya, unK, Zd, Zw, Nat.reduceBEq, Nat.reduceAdd, Int.reduceBEq, Int.reduceBNe, Int.reduceLT, Zu, Zz, tup, tyf], rfl⟩
    · obtain rfl : j = o.length := by omega
      refine Yc fun N12 hN12 => ?_
      simp (maxSteps := 2000000) only [s46, ↓Za, ↓Zm, ↓Zr, ↓Ze, ↓Zk, ↓Zs, ↓Zf, ↓Zi, ↓Zg, ↓Zc, ↓Zb, ↓vdn, vup, Zl, Zn, Zh, Zj, Zo, List.map_cons, List.map_nil, cond_true, cond_false, aop, Zv, Zq, Zp, ev, sput, Zt, Zy, Ya, unK, Zd, Zw, Nat.reduceBEq, Nat.reduceAdd, Int.reduceBEq, Int.reduceBNe, Int.reduceLT, Zu, Zz, tup, tyf, hjin]
      refine hN12 [(0, v), (2, .slice none 0 0), (3, S), (4, Zx (i : Nat)), (12, Zx o.length), (13, Zx (i : Nat)), (17, Zx o.length), (18, Zx o.length), (19, .bool false)] _ _ ?_ (by simp (maxSteps := 2000000) only [↓Za, ↓Zm, ↓Zr, ↓Ze, ↓Zk, ↓Zs, ↓Zf, ↓Zi, ↓Zg, ↓Zc, ↓Zb, ↓vdn, vup, Zl, Zn, Zh, Zj, Zo, List.map_cons, List.map_nil, cond_true, cond_false, aop, Zv, Zq, Zp, ev, sput, Zt, Zy, Ya, unK, Zd, Zw, Nat.reduceBEq, Nat.reduceAdd, Int.reduceBEq, Int.reduceBNe, Int.reduceLT, Zu, Zz, tup, tyf])
      clear hN12
      try clear N12
      refine Yc fun N13 hN13 => ?_
      simp (maxSteps := 2000000) only [s46, ↓Za, ↓Zm, ↓Zr, ↓Ze, ↓Zk, ↓Zs, ↓Zf, ↓Zi, ↓Zg, ↓Zc, ↓Zb, ↓vdn, vup, Zl, Zn, Zh, Zj, Zo, List.map_cons, List.map_nil, cond_true, cond_false, aop, Zv, Zq, Zp, ev, sput, Zt, Zy, Ya, unK, Zd, Zw, Nat.reduceBEq, Nat.reduceAdd, Int.reduceBEq, Int.reduceBNe, Int.reduceLT, Zu, Zz, tup, tyf]
      refine hQb _ _ _ (hQa _ _ _ ?_)
      simp (maxSteps := 2000000) only [s46, ↓Za, ↓Zm, ↓Zr, ↓Ze, ↓Zk, ↓Zs, ↓Zf, ↓Zi, ↓Zg, ↓Zc, ↓Zb, ↓vdn, vup, Zl, Zn, Zh, Zj, Zo, List.map_cons, List.map_nil, cond_true, cond_false, aop, Zv, Zq, Zp, ev, sput, Zt, Zy, Ya, unK, Zd, Zw, Nat.reduceBEq, Nat.reduceAdd, Int.reduceBEq, Int.reduceBNe, Int.reduceLT, Zu, Zz, tup, tyf, if_true]
      rw [tbL_congr (f := lft o i o.length) (g := lft o (i + 1) 0) fun x _ => lft_next o i x]
      refine hB [(0, v), (2, .slice none 0 0), (3, S), (12, Zx o.length), (13, Zx (i : Nat))] _ _ ?_ (by simp (maxSteps := 2000000) only [↓Za, ↓Zm, ↓Zr, ↓Ze, ↓Zk, ↓Zs, ↓Zf, ↓Zi, ↓Zg, ↓Zc, ↓Zb, ↓vdn, vup, Zl, Zn, Zh, Zj, Zo, List.map_cons, List.map_nil, cond_true, cond_false, aop, Zv, Zq, Zp, ev, sput, Zt, Zy, Ya, unK, Zd, Zw, Nat.reduceBEq, Nat.reduceAdd, Int.reduceBEq, Int.reduceBNe, Int.reduceLT, Zu, Zz, tup, tyf])
      clear hB
      try clear B
      refine Yl ?_
      simp (maxSteps := 2000000) only [s46, ↓Za, ↓Zm, ↓Zr, ↓Ze, ↓Zk, ↓Zs, ↓Zf, ↓Zi, ↓Zg, ↓Zc, ↓Zb, ↓vdn, vup, Zl, Zn, Zh, Zj, Zo, List.map_cons, List.map_nil, cond_true, cond_false, aop, Zv, Zq, Zp, ev, sput, Zt, Zy, Ya, unK, Zd, Zw, Nat.reduceBEq, Nat.reduceAdd, Int.reduceBEq, Int.reduceBNe, Int.reduceLT, Zu, Zz, tup, tyf, add1 (show i < 9223372036854775807 by omega)]
      exact hQ2 _ _ _ ⟨i + 1, hi', by omega, by simp (maxSteps := 2000000) only [↓Za, ↓Zm, ↓Zr, ↓Ze, ↓Zk, ↓Zs, ↓Zf, ↓Zi, ↓Zg, ↓Zc, ↓Zb, ↓vdn, vup, Zl, Zn, Zh, Zj, Zo, List.map_cons, List.map_nil, cond_true, cond_false, aop, Zv, Zq, Zp, ev, sput, Zt, Zy, Ya, unK, Zd, Zw, Nat.reduceBEq, Nat.reduceAdd, Int.reduceBEq, Int.reduceBNe, Int.reduceLT, Zu, Zz, tup, tyf], rfl⟩
  obtain rfl : i = o.length := by omega
  refine Yc fun N14 hN14 => ?_
  simp (maxSteps := 2000000) only [s46, ↓Za, ↓Zm, ↓Zr, ↓Ze, ↓Zk, ↓Zs, ↓Zf, ↓Zi, ↓Zg, ↓Zc, ↓Zb, ↓vdn, vup, Zl, Zn, Zh, Zj, Zo, List.map_cons, List.map_nil, cond_true, cond_false, aop, Zv, Zq, Zp, ev, sput, Zt, Zy, Ya, unK, Zd, Zw, Nat.reduceBEq, Nat.reduceAdd, Int.reduceBEq, Int.reduceBNe, Int.reduceLT, Zu, Zz, tup, tyf, hin]
  refine hN14 [(0, v), (2, .slice none 0 0), (3, S), (12, Zx o.length), (13, Zx o.length), (14, .bool false)] _ _ ?_ (by simp (maxSteps := 2000000) only [↓Za, ↓Zm, ↓Zr, ↓Ze, ↓Zk, ↓Zs, ↓Zf, ↓Zi, ↓Zg, ↓Zc, ↓Zb, ↓vdn, vup, Zl, Zn, Zh, Zj, Zo, List.map_cons, List.map_nil, cond_true, cond_false, aop, Zv, Zq, Zp, ev, sput, Zt, Zy, Ya, unK, Zd, Zw, Nat.reduceBEq, Nat.reduceAdd, Int.reduceBEq, Int.reduceBNe, Int.reduceLT, Zu, Zz, tup, tyf])
  clear hN14
  try clear N14
  refine Yc fun N15 hN15 => ?_
  simp (maxSteps := 2000000) only [s46, ↓Za, ↓Zm, ↓Zr, ↓Ze, ↓Zk, ↓Zs, ↓Zf, ↓Zi, ↓Zg, ↓Zc, ↓Zb, ↓vdn, vup, Zl, Zn, Zh, Zj, Zo, List.map_cons, List.map_nil, cond_true, cond_false, aop, Zv, Zq, Zp, ev, sput, Zt, Zy, Ya, unK, Zd, Zw, Nat.reduceBEq, Nat.reduceAdd, Int.reduceBEq, Int.reduceBNe, Int.reduceLT, Zu, Zz, tup, tyf]
  refine hQ2 _ _ _ (hQ _ _ _ ?_)
  simp (maxSteps := 2000000) only [s46, ↓Za, ↓Zm, ↓Zr, ↓Ze, ↓Zk, ↓Zs, ↓Zf, ↓Zi, ↓Zg, ↓Zc, ↓Zb, ↓vdn, vup, Zl, Zn, Zh, Zj, Zo, List.map_cons, List.map_nil, cond_true, cond_false, aop, Zv, Zq, Zp, ev, sput, Zt, Zy, Ya, unK, Zd, Zw, Nat.reduceBEq, Nat.reduceAdd, Int.reduceBEq, Int.reduceBNe, Int.reduceLT, Zu, Zz, tup, tyf, if_true]
  rw [tbL_congr (f := lft o o.length 0) (g := lfM o []) fun x hx => lft_all hx]
  refine hZ [(0, v), (2, .slice none 0 0), (3, S)] _ _ ?_ (by simp (maxSteps := 2000000) only [↓Za, ↓Zm, ↓Zr, ↓Ze, ↓Zk, ↓Zs, ↓Zf, ↓Zi, ↓Zg, ↓Zc, ↓Zb, ↓vdn, vup, Zl, Zn, Zh, Zj, Zo, List.map_cons, List.map_nil, cond_true, cond_false, aop, Zv, Zq, Zp, ev, sput, Zt, Zy, Ya, unK, Zd, Zw, Nat.reduceBEq, Nat.reduceAdd, Int.reduceBEq, Int.reduceBNe, Int.reduceLT, Zu, Zz, tup, tyf])
  clear hZ
  try clear Z
  clear hQ hQ2
  obtain ⟨H0, hH0⟩ : ∃ H0, H0 = X (tbL o (lfM o [])) := ⟨_, rfl⟩
  rw [← hH0]
  have hE0 : Ext (fun _ => False) h H0 := by rw [hH0]; exact xE _
  have hSG : IntSl H0 S (tbL o (lfM o [])) := by rw [hS]; exact intSl_tab h.length (tbL_len o _) (by rw [hH0, x1])
  clear hH0 x1 xE xset hvX
  refine Yc fun N16 hN16 => ?_
  simp (maxSteps := 2000000) only [s46, ↓Za, ↓Zm, ↓Zr, ↓Ze, ↓Zk, ↓Zs, ↓Zf, ↓Zi, ↓Zg, ↓Zc, ↓Zb, ↓vdn, vup, Zl, Zn, Zh, Zj, Zo, List.map_cons, List.map_nil, cond_true, cond_false, aop, Zv, Zq, Zp, ev, sput, Zt, Zy, Ya, unK, Zd, Zw, Nat.reduceBEq, Nat.reduceAdd, Int.reduceBEq, Int.reduceBNe, Int.reduceLT, Zu, Zz, tup, tyf]
  refine hN16 [(0, v), (2, .slice none 0 0), (3, S), (6, .int .i64 1)] _ _ ?_ (by simp (maxSteps := 2000000) only [↓Za, ↓Zm, ↓Zr, ↓Ze, ↓Zk, ↓Zs, ↓Zf, ↓Zi, ↓Zg, ↓Zc, ↓Zb, ↓vdn, vup, Zl, Zn, Zh, Zj, Zo, List.map_cons, List.map_nil, cond_true, cond_false, aop, Zv, Zq, Zp, ev, sput, Zt, Zy, Ya, unK, Zd, Zw, Nat.reduceBEq, Nat.reduceAdd, Int.reduceBEq, Int.reduceBNe, Int.reduceLT, Zu, Zz, tup, tyf])
  clear hN16
  try clear N16
  refine Yk ?_
  refine Yf fun Q hQ => ?_
  refine Xt (γ := Nat × Yb) (fun g => g.1 < 3 ∧ Yr (sepB o) (cn o) 0 g.1 = none ∧ Ext (fun _ => False) H0 g.2)
    (fun g => ([(0, v), (2, .slice none 0 0), (3, S), (6, Zx (g.1 + 1 : Nat))], g.2)) (fun g => 3 - g.1) (0, H0) ⟨show 0 < 3 by decide, rfl, Ext.refl _ _⟩ (by simp (maxSteps := 2000000) only [↓Za, ↓Zm, ↓Zr, ↓Ze, ↓Zk, ↓Zs, ↓Zf, ↓Zi, ↓Zg, ↓Zc, ↓Zb, ↓vdn, vup, Zl, Zn, Zh, Zj, Zo, List.map_cons, List.map_nil, cond_true, cond_false, aop, Zv, Zq, Zp, ev, sput, Zt, Zy, Ya, unK, Zd, Zw, Nat.reduceBEq, Nat.reduceAdd, Int.reduceBEq, Int.reduceBNe, Int.reduceLT, Zu, Zz, tup, tyf, Nat.zero_add, Int.natCast_one]) rfl ?_
  rintro ⟨s, G⟩ ⟨hs, hshort, hEG⟩
  simp only at hs hshort hEG
  refine Yf fun Q2 hQ2 => ?_
  simp only [l46_2]
  refine Yh fun B hB => ?_
  refine Yk ?_
  refine Yc fun N17 hN17 => ?_
  simp (maxSteps := 2000000) only [s46, ↓Za, ↓Zm, ↓Zr, ↓Ze, ↓Zk, ↓Zs, ↓Zf, ↓Zi, ↓Zg, ↓Zc, ↓Zb, ↓vdn, vup, Zl, Zn, Zh, Zj, Zo, List.map_cons, List.map_nil, cond_true, cond_false, aop, Zv, Zq, Zp, ev, sput, Zt, Zy, Ya, unK, Zd, Zw, Nat.reduceBEq, Nat.reduceAdd, Int.reduceBEq, Int.reduceBNe, Int.reduceLT, Zu, Zz, tup, tyf, Xf, List.nil_append, List.append_nil, List.toList_toArray, List.cons_append]
  refine (rlinesAll_call (Yt hv (hE0.trans hEG)) ho).mono ?_
  rintro al G1 ⟨hal, hE1⟩
  refine (rreal_call ho (s + 1) 0 [] G1 S (.slice none 0 0) (fun hc => absurd hc (Nat.succ_ne_zero s)) (by simp only [List.length_nil]; omega) (fun k hk => by cases hk) (Nat.zero_le _) (Yt hv ((hE0.trans hEG).trans hE1)) hal (Yt hSG (hEG.trans hE1)) OwnL.nil).mono ?_
  rintro r G2 ⟨hE2, hr⟩
  have hEn : Ext (fun _ => False) H0 G2 := (hEG.trans hE1).trans hE2
  refine hN17 [(0, v), (2, .slice none 0 0), (3, S), (6, Zx (s + 1 : Nat)), (7, r)] _ _ ?_ (by simp (maxSteps := 2000000) only [↓Za, ↓Zm, ↓Zr, ↓Ze, ↓Zk, ↓Zs, ↓Zf, ↓Zi, ↓Zg, ↓Zc, ↓Zb, ↓vdn, vup, Zl, Zn, Zh, Zj, Zo, List.map_cons, List.map_nil, cond_true, cond_false, aop, Zv, Zq, Zp, ev, sput, Zt, Zy, Ya, unK, Zd, Zw, Nat.reduceBEq, Nat.reduceAdd, Int.reduceBEq, Int.reduceBNe, Int.reduceLT, Zu, Zz, tup, tyf])
  clear hN17
  try clear N17
  cases hsr : srch (sepB o) (cn o) 0 (s + 1) 0 [] with
  | none =>
    rw [hsr] at hr
    obtain rfl : r = .slice none 0 0 := hr
    have hnext : Yr (sepB o) (cn o) 0 (s + 1) = none := by rw [Yr, hshort, hsr]; rfl
    have hs2 : s + 1 < 3 := by
      rcases Nat.lt_or_ge (s + 1) 3 with h | h
      · exact h
      · have : s + 1 = 3 := by omega
        rw [this, shortest_weak (sepB_mem o)] at hnext; exact absurd hnext (real_not3 ho)
    refine Yc fun N18 hN18 => ?_
    simp (maxSteps := 2000000) only [s46, ↓Za, ↓Zm, ↓Zr, ↓Ze, ↓Zk, ↓Zs, ↓Zf, ↓Zi, ↓Zg, ↓Zc, ↓Zb, ↓vdn, vup, Zl, Zn, Zh, Zj, Zo, List.map_cons, List.map_nil, cond_true, cond_false, aop, Zv, Zq, Zp, ev, sput, Zt, Zy, Ya, unK, Zd, Zw, Nat.reduceBEq, Nat.reduceAdd, Int.reduceBEq, Int.reduceBNe, Int.reduceLT, Zu, Zz, tup, tyf, el_45, Option.isSome_some]
    refine hN18 [(0, v), (2, .slice none 0 0), (3, S), (6, Zx (s + 1 : Nat)), (7, .slice none 0 0), (44, .bool false)] _ _ ?_ (by simp (maxSteps := 2000000) only [↓Za, ↓Zm, ↓Zr, ↓Ze, ↓Zk, ↓Zs, ↓Zf, ↓Zi, ↓Zg, ↓Zc, ↓Zb, ↓vdn, vup, Zl, Zn, Zh, Zj, Zo, List.map_cons, List.map_nil, cond_true, cond_false, aop, Zv, Zq, Zp, ev, sput, Zt, Zy, Ya, unK, Zd, Zw, Nat.reduceBEq, Nat.reduceAdd, Int.reduceBEq, Int.reduceBNe, Int.reduceLT, Zu, Zz, tup, tyf])
    clear hN18
    try clear N18
    refine Xy rfl ?_
    refine Yl ?_
    simp (maxSteps := 2000000) only [s46, ↓Za, ↓Zm, ↓Zr, ↓Ze, ↓Zk, ↓Zs, ↓Zf, ↓Zi, ↓Zg, ↓Zc, ↓Zb, ↓vdn, vup, Zl, Zn, Zh, Zj, Zo, List.map_cons, List.map_nil, cond_true, cond_false, aop, Zv, Zq, Zp, ev, sput, Zt, Zy, Ya, unK, Zd, Zw, Nat.reduceBEq, Nat.reduceAdd, Int.reduceBEq, Int.reduceBNe, Int.reduceLT, Zu, Zz, tup, tyf]
    refine hB [(0, v), (2, .slice none 0 0), (3, S), (6, Zx (s + 1 : Nat))] _ _ ?_ (by simp (maxSteps := 2000000) only [↓Za, ↓Zm, ↓Zr, ↓Ze, ↓Zk, ↓Zs, ↓Zf, ↓Zi, ↓Zg, ↓Zc, ↓Zb, ↓vdn, vup, Zl, Zn, Zh, Zj, Zo, List.map_cons, List.map_nil, cond_true, cond_false, aop, Zv, Zq, Zp, ev, sput, Zt, Zy, Ya, unK, Zd, Zw, Nat.reduceBEq, Nat.reduceAdd, Int.reduceBEq, Int.reduceBNe, Int.reduceLT, Zu, Zz, tup, tyf])
    clear hB
    try clear B
    refine Yl ?_
    simp (maxSteps := 2000000) only [s46, ↓Za, ↓Zm, ↓Zr, ↓Ze, ↓Zk, ↓Zs, ↓Zf, ↓Zi, ↓Zg, ↓Zc, ↓Zb, ↓vdn, vup, Zl, Zn, Zh, Zj, Zo, List.map_cons, List.map_nil, cond_true, cond_false, aop, Zv, Zq, Zp, ev, sput, Zt, Zy, Ya, unK, Zd, Zw, Nat.reduceBEq, Nat.reduceAdd, Int.reduceBEq, Int.reduceBNe, Int.reduceLT, Zu, Zz, tup, tyf, add1 (show s + 1 < 9223372036854775807 by omega)]
    exact hQ2 _ _ _ ⟨(s + 1, G2), ⟨hs2, hnext, hEn⟩, by simp only; omega, by simp (maxSteps := 2000000) only [↓Za, ↓Zm, ↓Zr, ↓Ze, ↓Zk, ↓Zs, ↓Zf, ↓Zi, ↓Zg, ↓Zc, ↓Zb, ↓vdn, vup, Zl, Zn, Zh, Zj, Zo, List.map_cons, List.map_nil, cond_true, cond_false, aop, Zv, Zq, Zp, ev, sput, Zt, Zy, Ya, unK, Zd, Zw, Nat.reduceBEq, Nat.reduceAdd, Int.reduceBEq, Int.reduceBNe, Int.reduceLT, Zu, Zz, tup, tyf], rfl⟩
  | some q =>
    rw [hsr] at hr
    have hr' : OwnL 22 3 G2 r (lnL o q) := hr
    have hreal := real_hit0 hshort hsr hs
    obtain ⟨t, hqt, htl, _⟩ := srch_some hsr
    obtain ⟨p, n, c, rfl⟩ := ownL_some hr' (by
      intro hc
      have := congrArg List.length hc
      rw [lnL_len, hqt, List.nil_append, htl] at this; exact absurd this (Nat.succ_ne_zero s))
    refine Yc fun N19 hN19 => ?_
    simp (maxSteps := 2000000) only [s46, ↓Za, ↓Zm, ↓Zr, ↓Ze, ↓Zk, ↓Zs, ↓Zf, ↓Zi, ↓Zg, ↓Zc, ↓Zb, ↓vdn, vup, Zl, Zn, Zh, Zj, Zo, List.map_cons, List.map_nil, cond_true, cond_false, aop, Zv, Zq, Zp, ev, sput, Zt, Zy, Ya, unK, Zd, Zw, Nat.reduceBEq, Nat.reduceAdd, Int.reduceBEq, Int.reduceBNe, Int.reduceLT, Zu, Zz, tup, tyf, el_45, Option.isSome_some]
    refine hN19 [(0, v), (2, .slice none 0 0), (3, S), (6, Zx (s + 1 : Nat)), (7, .slice (some p) n c), (44, .bool true)] _ _ ?_ (by simp (maxSteps := 2000000) only [↓Za, ↓Zm, ↓Zr, ↓Ze, ↓Zk, ↓Zs, ↓Zf, ↓Zi, ↓Zg, ↓Zc, ↓Zb, ↓vdn, vup, Zl, Zn, Zh, Zj, Zo, List.map_cons, List.map_nil, cond_true, cond_false, aop, Zv, Zq, Zp, ev, sput, Zt, Zy, Ya, unK, Zd, Zw, Nat.reduceBEq, Nat.reduceAdd, Int.reduceBEq, Int.reduceBNe, Int.reduceLT, Zu, Zz, tup, tyf])
    clear hN19
    try clear N19
    refine Wu rfl ?_
    refine Yl ?_
    simp (maxSteps := 2000000) only [s46, ↓Za, ↓Zm, ↓Zr, ↓Ze, ↓Zk, ↓Zs, ↓Zf, ↓Zi, ↓Zg, ↓Zc, ↓Zb, ↓vdn, vup, Zl, Zn, Zh, Zj, Zo, List.map_cons, List.map_nil, cond_true, cond_false, aop, Zv, Zq, Zp, ev, sput, Zt, Zy, Ya, unK, Zd, Zw, Nat.reduceBEq, Nat.reduceAdd, Int.reduceBEq, Int.reduceBNe, Int.reduceLT, Zu, Zz, tup, tyf]
    refine hQ2 _ _ _ (hQ _ _ _ ?_)
    simp (maxSteps := 2000000) only [s46, ↓Za, ↓Zm, ↓Zr, ↓Ze, ↓Zk, ↓Zs, ↓Zf, ↓Zi, ↓Zg, ↓Zc, ↓Zb, ↓vdn, vup, Zl, Zn, Zh, Zj, Zo, List.map_cons, List.map_nil, cond_true, cond_false, aop, Zv, Zq, Zp, ev, sput, Zt, Zy, Ya, unK, Zd, Zw, Nat.reduceBEq, Nat.reduceAdd, Int.reduceBEq, Int.reduceBNe, Int.reduceLT, Zu, Zz, tup, tyf]
    exact ⟨hE0.trans hEn, by rw [realLL_eq, hreal]; exact hr'.rd⟩
end Go.Proofs.Tryd.Am

namespace Go.Proofs.Tryd.Am
open Go.Am Ord
set_option maxRecDepth 100000
set_option maxHeartbeats 4000000

theorem take_F {o : List Int} (h : ord o = false) : ord (o.take 9) = false := by rw [ord_take]; exact h
theorem ints_take {o : List Int} {h : Yb} {x : Value} {e : Int} (hi : IntsIs (o.take 9) (turnL (o.take 9)) h x e) : IntsIs o (turnL o) h x e := by
  cases ho : ord o with
  | true => rw [ord_take_eq ho] at hi; exact hi
  | false => rw [IntsIs, take_F ho, if_neg (by decide)] at hi; rw [IntsIs, ho, if_neg (by decide)]; exact hi
theorem real_take {o : List Int} {h : Yb} {x : Value} {e : Int} (hi : RealIs (o.take 9) h x e) : RealIs o h x e := by
  cases ho : ord o with
  | true => rw [ord_take_eq ho] at hi; exact hi
  | false => rw [RealIs, take_F ho, if_neg (by decide)] at hi; rw [RealIs, ho, if_neg (by decide)]; exact hi
theorem dim_take (o : List Int) : dimV (o.take 9) = dimV o := by
  cases ho : ord o with
  | true => rw [ord_take_eq ho]
  | false => rw [dimV, take_F ho, if_neg (by decide), dimV, ho, if_neg (by decide)]
theorem realLL_len (o : List Int) : (realLL o).length = (realL o).length := by rw [realLL_eq, lnL_len]
theorem realL_facts {o : List Int} (ho : ord o = true) : (∀ k ∈ realL o, k < cn o) ∧ (realL o).length ≤ 3 := by
  have hx : ∀ s, s ≤ 3 → ∀ q, Yr (sepB o) (cn o) 1 s = some q → (∀ k ∈ q, k < cn o) ∧ q.length ≤ 3 := by
    intro s
    induction s with
    | zero => intro _ q h; rw [Yr] at h; cases h
    | succ s ih =>
      intro hs q h
      rw [Yr] at h
      cases h1 : Yr (sepB o) (cn o) 1 s with
      | some q' => rw [h1] at h; cases h; exact ih (by omega) _ h1
      | none =>
        rw [h1] at h
        obtain ⟨h2, h3, _⟩ := real_q (show srch (sepB o) (cn o) 1 (s + 1) 0 [] = some q from h)
        exact ⟨fun k hk => (h3.lt k hk).2, by omega⟩
  cases h : Yr (sepB o) (cn o) 1 3 with
  | none => exact absurd h (real_not3 ho)
  | some q => rw [realL, h]; exact hx 3 (Nat.le_refl _) q h
theorem realLL_get {o : List Int} (ho : ord o = true) {i : Nat} (hi : i < (realLL o).length) : ((realLL o).getD i []).length = o.length := by
  rw [realLL_len] at hi
  have hm : (realL o).getD i 0 ∈ realL o := getD_memN hi
  have : (realLL o).getD i [] = Wp (lin o ((realL o).getD i 0)) := by
    rw [realLL_eq, lnL, List.getD, List.getElem?_map, List.getD, List.getElem?_eq_getElem hi]; rfl
  rw [this, Vc, (Vb ho ((realL_facts ho).1 _ hm)).pm.length_eq, List.length_range]

theorem s10_callW [Tabs Tryd.prog] {args : List Value} {h : Yb} {Q : Value → Yb → Prop} (hsz : args.length ≤ 88) (hk : AWS Tryd.prog 88 s10 (Zu Tryd.prog [.tmp 2] Q) (Zp 0 args) h) : ACall Tryd.prog 10 args h Q :=
  acall_w Tryd.func10 rfl (enters_of Tryd.func10 (by kernel_rfl) rfl) rfl rfl (by decide) s10_strip s10_ok hsz hk
theorem law_reals [BitTab prog 1] {h : Yb} {v : Value} {o : List Int} (hv : IntSl h v o) (hl : o.length < 9223372036854775808) (hx : ∀ x ∈ o, -9223372036854775808 ≤ x ∧ x < 9223372036854775808) :
    ACall prog 10 [v] h fun r _ => r = .bool true := by
  have hx9 : ∀ x ∈ o.take 9, -9223372036854775808 ≤ x ∧ x < 9223372036854775808 := fun x hm => hx x (List.take_subset _ _ hm)
  have hl9 : (o.take 9).length < 9223372036854775808 := by simp; omega
  refine s10_callW (by simp) ?_
  simp only [s10]
  refine Yc fun N1 hN1 => ?_
  simp (maxSteps := 2000000) only [s10, ↓Za, ↓Zm, ↓Zr, ↓Ze, ↓Zk, ↓Zs, ↓Zf, ↓Zi, ↓Zg, ↓Zc, ↓Zb, ↓vdn, vup, Zl, Zn, Zh, Zj, Zo, List.map_cons, List.map_nil, cond_true, cond_false, aop, Zv, Zq, Zp, ev, sput, Zt, Zy, Ya, unK, Zd, Zw, Nat.reduceBEq, Nat.reduceAdd, Int.reduceBEq, Int.reduceBNe, Int.reduceLT, Zu, Zz, tup, tyf]
  refine hN1 [(0, v), (2, .bool false)] _ _ ?_ (by simp (maxSteps := 2000000) only [↓Za, ↓Zm, ↓Zr, ↓Ze, ↓Zk, ↓Zs, ↓Zf, ↓Zi, ↓Zg, ↓Zc, ↓Zb, ↓vdn, vup, Zl, Zn, Zh, Zj, Zo, List.map_cons, List.map_nil, cond_true, cond_false, aop, Zv, Zq, Zp, ev, sput, Zt, Zy, Ya, unK, Zd, Zw, Nat.reduceBEq, Nat.reduceAdd, Int.reduceBEq, Int.reduceBNe, Int.reduceLT, Zu, Zz, tup, tyf])
  clear hN1
  try clear N1
  refine Yc fun N2 hN2 => ?_
  simp (maxSteps := 2000000) only [s10, ↓Za, ↓Zm, ↓Zr, ↓Ze, ↓Zk, ↓Zs, ↓Zf, ↓Zi, ↓Zg, ↓Zc, ↓Zb, ↓vdn, vup, Zl, Zn, Zh, Zj, Zo, List.map_cons, List.map_nil, cond_true, cond_false, aop, Zv, Zq, Zp, ev, sput, Zt, Zy, Ya, unK, Zd, Zw, Nat.reduceBEq, Nat.reduceAdd, Int.reduceBEq, Int.reduceBNe, Int.reduceLT, Zu, Zz, tup, tyf, Xf, List.nil_append, List.append_nil, List.toList_toArray, List.cons_append]
  refine (list_call hv hl).mono ?_
  rintro l1 _ ⟨hl1, g1, rfl⟩
  refine (real_call hl1 hl9 hx9).mono ?_
  rintro _ h1 ⟨hE1, x1, e1, rfl, hi1⟩
  replace hi1 := real_take hi1
  have hv1 := Yt (hv.grow g1) hE1
  simp (maxSteps := 2000000) only [s10, ↓Za, ↓Zm, ↓Zr, ↓Ze, ↓Zk, ↓Zs, ↓Zf, ↓Zi, ↓Zg, ↓Zc, ↓Zb, ↓vdn, vup, Zl, Zn, Zh, Zj, Zo, List.map_cons, List.map_nil, cond_true, cond_false, aop, Zv, Zq, Zp, ev, sput, Zt, Zy, Ya, unK, Zd, Zw, Nat.reduceBEq, Nat.reduceAdd, Int.reduceBEq, Int.reduceBNe, Int.reduceLT, Zu, Zz, tup, tyf]
  refine hN2 [(0, v), (2, .bool false), (3, x1), (4, .int .i64 e1)] _ _ ?_ (by simp (maxSteps := 2000000) only [↓Za, ↓Zm, ↓Zr, ↓Ze, ↓Zk, ↓Zs, ↓Zf, ↓Zi, ↓Zg, ↓Zc, ↓Zb, ↓vdn, vup, Zl, Zn, Zh, Zj, Zo, List.map_cons, List.map_nil, cond_true, cond_false, aop, Zv, Zq, Zp, ev, sput, Zt, Zy, Ya, unK, Zd, Zw, Nat.reduceBEq, Nat.reduceAdd, Int.reduceBEq, Int.reduceBNe, Int.reduceLT, Zu, Zz, tup, tyf])
  clear hN2
  try clear N2
  refine Yc fun N3 hN3 => ?_
  simp (maxSteps := 2000000) only [s10, ↓Za, ↓Zm, ↓Zr, ↓Ze, ↓Zk, ↓Zs, ↓Zf, ↓Zi, ↓Zg, ↓Zc, ↓Zb, ↓vdn, vup, Zl, Zn, Zh, Zj, Zo, List.map_cons, List.map_nil, cond_true, cond_false, aop, Zv, Zq, Zp, ev, sput, Zt, Zy, Ya, unK, Zd, Zw, Nat.reduceBEq, Nat.reduceAdd, Int.reduceBEq, Int.reduceBNe, Int.reduceLT, Zu, Zz, tup, tyf, Xf, List.nil_append, List.append_nil, List.toList_toArray, List.cons_append]
  refine (list_call hv1 hl).mono ?_
  rintro l2 _ ⟨hl2, g2, rfl⟩
  refine (dim_call hl2 hl9 hx9).mono ?_
  rintro _ _ ⟨rfl, rfl⟩
  rw [dim_take]
  have hv2 := hv1.grow g2
  have hE12 : Ext (fun _ => False) h1 (h1 ++ g2) := Ext.app _ _ _
  obtain ⟨h2, hh2⟩ : ∃ H, H = h1 ++ g2 := ⟨_, rfl⟩
  rw [← hh2] at hv2 hE12 ⊢
  have z00 : ((0 : Int) == 0) = true := rfl
  have z22 : ((2 : Int) == 2) = true := rfl
  cases ho : ord o with
  | false =>
    rw [RealIs, ho, if_neg (by decide)] at hi1
    obtain ⟨rfl, rfl⟩ := hi1
    rw [dimV, ho, if_neg (by decide)]
    simp (maxSteps := 2000000) only [s10, ↓Za, ↓Zm, ↓Zr, ↓Ze, ↓Zk, ↓Zs, ↓Zf, ↓Zi, ↓Zg, ↓Zc, ↓Zb, ↓vdn, vup, Zl, Zn, Zh, Zj, Zo, List.map_cons, List.map_nil, cond_true, cond_false, aop, Zv, Zq, Zp, ev, sput, Zt, Zy, Ya, unK, Zd, Zw, Nat.reduceBEq, Nat.reduceAdd, Int.reduceBEq, Int.reduceBNe, Int.reduceLT, Zu, Zz, tup, tyf]
    refine hN3 [(0, v), (2, .bool false), (3, .slice none 0 0), (4, .int .i64 2), (5, .int .i64 0), (6, .int .i64 2)] _ _ ?_ (by simp (maxSteps := 2000000) only [↓Za, ↓Zm, ↓Zr, ↓Ze, ↓Zk, ↓Zs, ↓Zf, ↓Zi, ↓Zg, ↓Zc, ↓Zb, ↓vdn, vup, Zl, Zn, Zh, Zj, Zo, List.map_cons, List.map_nil, cond_true, cond_false, aop, Zv, Zq, Zp, ev, sput, Zt, Zy, Ya, unK, Zd, Zw, Nat.reduceBEq, Nat.reduceAdd, Int.reduceBEq, Int.reduceBNe, Int.reduceLT, Zu, Zz, tup, tyf])
    clear hN3
    try clear N3
    refine Yc fun N4 hN4 => ?_
    simp (maxSteps := 2000000) only [s10, ↓Za, ↓Zm, ↓Zr, ↓Ze, ↓Zk, ↓Zs, ↓Zf, ↓Zi, ↓Zg, ↓Zc, ↓Zb, ↓vdn, vup, Zl, Zn, Zh, Zj, Zo, List.map_cons, List.map_nil, cond_true, cond_false, aop, Zv, Zq, Zp, ev, sput, Zt, Zy, Ya, unK, Zd, Zw, Nat.reduceBEq, Nat.reduceAdd, Int.reduceBEq, Int.reduceBNe, Int.reduceLT, Zu, Zz, tup, tyf, Xf, List.nil_append, List.append_nil, List.toList_toArray, List.cons_append]
    refine (list_call hv2 hl).mono ?_
    rintro l3 _ ⟨hl3, g3, rfl⟩
    refine (turn_call hl3 hl9 hx9).mono ?_
    rintro _ h3 ⟨hE3, x3, e3, rfl, hi3⟩
    replace hi3 := ints_take hi3
    rw [IntsIs, ho, if_neg (by decide)] at hi3
    obtain ⟨rfl, rfl⟩ := hi3
    have hv3 := Yt (hv2.grow g3) hE3
    simp (maxSteps := 2000000) only [s10, ↓Za, ↓Zm, ↓Zr, ↓Ze, ↓Zk, ↓Zs, ↓Zf, ↓Zi, ↓Zg, ↓Zc, ↓Zb, ↓vdn, vup, Zl, Zn, Zh, Zj, Zo, List.map_cons, List.map_nil, cond_true, cond_false, aop, Zv, Zq, Zp, ev, sput, Zt, Zy, Ya, unK, Zd, Zw, Nat.reduceBEq, Nat.reduceAdd, Int.reduceBEq, Int.reduceBNe, Int.reduceLT, Zu, Zz, tup, tyf]
    refine hN4 [(0, v), (2, .bool false), (3, .slice none 0 0), (4, .int .i64 2), (5, .int .i64 0), (6, .int .i64 2), (7, .slice none 0 0), (8, .int .i64 2)] _ _ ?_ (by simp (maxSteps := 2000000) only [↓Za, ↓Zm, ↓Zr, ↓Ze, ↓Zk, ↓Zs, ↓Zf, ↓Zi, ↓Zg, ↓Zc, ↓Zb, ↓vdn, vup, Zl, Zn, Zh, Zj, Zo, List.map_cons, List.map_nil, cond_true, cond_false, aop, Zv, Zq, Zp, ev, sput, Zt, Zy, Ya, unK, Zd, Zw, Nat.reduceBEq, Nat.reduceAdd, Int.reduceBEq, Int.reduceBNe, Int.reduceLT, Zu, Zz, tup, tyf])
    clear hN4
    try clear N4
    refine Yh fun A hA => ?_
    refine Yc fun N5 hN5 => ?_
    simp (maxSteps := 2000000) only [s10, ↓Za, ↓Zm, ↓Zr, ↓Ze, ↓Zk, ↓Zs, ↓Zf, ↓Zi, ↓Zg, ↓Zc, ↓Zb, ↓vdn, vup, Zl, Zn, Zh, Zj, Zo, List.map_cons, List.map_nil, cond_true, cond_false, aop, Zv, Zq, Zp, ev, sput, Zt, Zy, Ya, unK, Zd, Zw, Nat.reduceBEq, Nat.reduceAdd, Int.reduceBEq, Int.reduceBNe, Int.reduceLT, Zu, Zz, tup, tyf, Xf, List.nil_append, List.append_nil, List.toList_toArray, List.cons_append]
    refine (rorder_call hv3 hl hx).mono ?_
    rintro _ _ ⟨rfl, rfl⟩
    simp (maxSteps := 2000000) only [s10, ↓Za, ↓Zm, ↓Zr, ↓Ze, ↓Zk, ↓Zs, ↓Zf, ↓Zi, ↓Zg, ↓Zc, ↓Zb, ↓vdn, vup, Zl, Zn, Zh, Zj, Zo, List.map_cons, List.map_nil, cond_true, cond_false, aop, Zv, Zq, Zp, ev, sput, Zt, Zy, Ya, unK, Zd, Zw, Nat.reduceBEq, Nat.reduceAdd, Int.reduceBEq, Int.reduceBNe, Int.reduceLT, Zu, Zz, tup, tyf, ho, Bool.not_false]
    refine hN5 [(0, v), (2, .bool false), (3, .slice none 0 0), (4, .int .i64 2), (5, .int .i64 0), (6, .int .i64 2), (7, .slice none 0 0), (8, .int .i64 2), (30, .bool true)] _ _ ?_ (by simp (maxSteps := 2000000) only [↓Za, ↓Zm, ↓Zr, ↓Ze, ↓Zk, ↓Zs, ↓Zf, ↓Zi, ↓Zg, ↓Zc, ↓Zb, ↓vdn, vup, Zl, Zn, Zh, Zj, Zo, List.map_cons, List.map_nil, cond_true, cond_false, aop, Zv, Zq, Zp, ev, sput, Zt, Zy, Ya, unK, Zd, Zw, Nat.reduceBEq, Nat.reduceAdd, Int.reduceBEq, Int.reduceBNe, Int.reduceLT, Zu, Zz, tup, tyf])
    clear hN5
    try clear N5
    refine Wu rfl ?_
    refine Yl ?_
    simp (maxSteps := 2000000) only [s10, ↓Za, ↓Zm, ↓Zr, ↓Ze, ↓Zk, ↓Zs, ↓Zf, ↓Zi, ↓Zg, ↓Zc, ↓Zb, ↓vdn, vup, Zl, Zn, Zh, Zj, Zo, List.map_cons, List.map_nil, cond_true, cond_false, aop, Zv, Zq, Zp, ev, sput, Zt, Zy, Ya, unK, Zd, Zw, Nat.reduceBEq, Nat.reduceAdd, Int.reduceBEq, Int.reduceBNe, Int.reduceLT, Zu, Zz, tup, tyf, lenK, Int.natCast_zero, z00, z22, Xf, List.nil_append, List.append_nil, List.toList_toArray, List.cons_append, show addV .i64 0 0 = 0 from rfl]
    refine awake_call.mono ?_
    rintro _ _ ⟨rfl, rfl⟩
    simp (maxSteps := 2000000) only [s10, ↓Za, ↓Zm, ↓Zr, ↓Ze, ↓Zk, ↓Zs, ↓Zf, ↓Zi, ↓Zg, ↓Zc, ↓Zb, ↓vdn, vup, Zl, Zn, Zh, Zj, Zo, List.map_cons, List.map_nil, cond_true, cond_false, aop, Zv, Zq, Zp, ev, sput, Zt, Zy, Ya, unK, Zd, Zw, Nat.reduceBEq, Nat.reduceAdd, Int.reduceBEq, Int.reduceBNe, Int.reduceLT, Zu, Zz, tup, tyf]
  | true =>
    have hlen := Xk ho
    have hcn := cn_le ho
    rw [RealIs, ho, if_pos rfl] at hi1
    obtain ⟨rfl, hr1⟩ := hi1
    rw [dimV, ho, if_pos rfl]
    simp (maxSteps := 2000000) only [s10, ↓Za, ↓Zm, ↓Zr, ↓Ze, ↓Zk, ↓Zs, ↓Zf, ↓Zi, ↓Zg, ↓Zc, ↓Zb, ↓vdn, vup, Zl, Zn, Zh, Zj, Zo, List.map_cons, List.map_nil, cond_true, cond_false, aop, Zv, Zq, Zp, ev, sput, Zt, Zy, Ya, unK, Zd, Zw, Nat.reduceBEq, Nat.reduceAdd, Int.reduceBEq, Int.reduceBNe, Int.reduceLT, Zu, Zz, tup, tyf]
    refine hN3 [(0, v), (2, .bool false), (3, x1), (4, .int .i64 0), (5, Zx (realL o).length), (6, .int .i64 0)] _ _ ?_ (by simp (maxSteps := 2000000) only [↓Za, ↓Zm, ↓Zr, ↓Ze, ↓Zk, ↓Zs, ↓Zf, ↓Zi, ↓Zg, ↓Zc, ↓Zb, ↓vdn, vup, Zl, Zn, Zh, Zj, Zo, List.map_cons, List.map_nil, cond_true, cond_false, aop, Zv, Zq, Zp, ev, sput, Zt, Zy, Ya, unK, Zd, Zw, Nat.reduceBEq, Nat.reduceAdd, Int.reduceBEq, Int.reduceBNe, Int.reduceLT, Zu, Zz, tup, tyf])
    clear hN3
    try clear N3
    refine Yc fun N6 hN6 => ?_
    simp (maxSteps := 2000000) only [s10, ↓Za, ↓Zm, ↓Zr, ↓Ze, ↓Zk, ↓Zs, ↓Zf, ↓Zi, ↓Zg, ↓Zc, ↓Zb, ↓vdn, vup, Zl, Zn, Zh, Zj, Zo, List.map_cons, List.map_nil, cond_true, cond_false, aop, Zv, Zq, Zp, ev, sput, Zt, Zy, Ya, unK, Zd, Zw, Nat.reduceBEq, Nat.reduceAdd, Int.reduceBEq, Int.reduceBNe, Int.reduceLT, Zu, Zz, tup, tyf, Xf, List.nil_append, List.append_nil, List.toList_toArray, List.cons_append]
    refine (list_call hv2 hl).mono ?_
    rintro l3 _ ⟨hl3, g3, rfl⟩
    refine (turn_call hl3 hl9 hx9).mono ?_
    rintro _ h3 ⟨hE3, x3, e3, rfl, hi3⟩
    replace hi3 := ints_take hi3
    rw [IntsIs, ho, if_pos rfl] at hi3
    obtain ⟨rfl, hi3⟩ := hi3
    have hE23 : Ext (fun _ => False) h1 h3 := (hE12.trans (Ext.app _ _ g3)).trans hE3
    have hv3 := Yt (hv2.grow g3) hE3
    simp (maxSteps := 2000000) only [s10, ↓Za, ↓Zm, ↓Zr, ↓Ze, ↓Zk, ↓Zs, ↓Zf, ↓Zi, ↓Zg, ↓Zc, ↓Zb, ↓vdn, vup, Zl, Zn, Zh, Zj, Zo, List.map_cons, List.map_nil, cond_true, cond_false, aop, Zv, Zq, Zp, ev, sput, Zt, Zy, Ya, unK, Zd, Zw, Nat.reduceBEq, Nat.reduceAdd, Int.reduceBEq, Int.reduceBNe, Int.reduceLT, Zu, Zz, tup, tyf]
    refine hN6 [(0, v), (2, .bool false), (3, x1), (4, .int .i64 0), (5, Zx (realL o).length), (6, .int .i64 0), (7, x3), (8, .int .i64 0)] _ _ ?_ (by simp (maxSteps := 2000000) only [↓Za, ↓Zm, ↓Zr, ↓Ze, ↓Zk, ↓Zs, ↓Zf, ↓Zi, ↓Zg, ↓Zc, ↓Zb, ↓vdn, vup, Zl, Zn, Zh, Zj, Zo, List.map_cons, List.map_nil, cond_true, cond_false, aop, Zv, Zq, Zp, ev, sput, Zt, Zy, Ya, unK, Zd, Zw, Nat.reduceBEq, Nat.reduceAdd, Int.reduceBEq, Int.reduceBNe, Int.reduceLT, Zu, Zz, tup, tyf])
    clear hN6
    try clear N6
    refine Yh fun A hA => ?_
    refine Yc fun N7 hN7 => ?_
    simp (maxSteps := 2000000) only [s10, ↓Za, ↓Zm, ↓Zr, ↓Ze, ↓Zk, ↓Zs, ↓Zf, ↓Zi, ↓Zg, ↓Zc, ↓Zb, ↓vdn, vup, Zl, Zn, Zh, Zj, Zo, List.map_cons, List.map_nil, cond_true, cond_false, aop, Zv, Zq, Zp, ev, sput, Zt, Zy, Ya, unK, Zd, Zw, Nat.reduceBEq, Nat.reduceAdd, Int.reduceBEq, Int.reduceBNe, Int.reduceLT, Zu, Zz, tup, tyf, Xf, List.nil_append, List.append_nil, List.toList_toArray, List.cons_append]
    refine (rorder_call hv3 hl hx).mono ?_
    rintro _ _ ⟨rfl, rfl⟩
    simp (maxSteps := 2000000) only [s10, ↓Za, ↓Zm, ↓Zr, ↓Ze, ↓Zk, ↓Zs, ↓Zf, ↓Zi, ↓Zg, ↓Zc, ↓Zb, ↓vdn, vup, Zl, Zn, Zh, Zj, Zo, List.map_cons, List.map_nil, cond_true, cond_false, aop, Zv, Zq, Zp, ev, sput, Zt, Zy, Ya, unK, Zd, Zw, Nat.reduceBEq, Nat.reduceAdd, Int.reduceBEq, Int.reduceBNe, Int.reduceLT, Zu, Zz, tup, tyf, ho, Bool.not_true]
    refine hN7 [(0, v), (2, .bool false), (3, x1), (4, .int .i64 0), (5, Zx (realL o).length), (6, .int .i64 0), (7, x3), (8, .int .i64 0), (30, .bool false)] _ _ ?_ (by simp (maxSteps := 2000000) only [↓Za, ↓Zm, ↓Zr, ↓Ze, ↓Zk, ↓Zs, ↓Zf, ↓Zi, ↓Zg, ↓Zc, ↓Zb, ↓vdn, vup, Zl, Zn, Zh, Zj, Zo, List.map_cons, List.map_nil, cond_true, cond_false, aop, Zv, Zq, Zp, ev, sput, Zt, Zy, Ya, unK, Zd, Zw, Nat.reduceBEq, Nat.reduceAdd, Int.reduceBEq, Int.reduceBNe, Int.reduceLT, Zu, Zz, tup, tyf])
    clear hN7
    try clear N7
    refine Xy rfl ?_
    refine Yl ?_
    simp (maxSteps := 2000000) only [s10, ↓Za, ↓Zm, ↓Zr, ↓Ze, ↓Zk, ↓Zs, ↓Zf, ↓Zi, ↓Zg, ↓Zc, ↓Zb, ↓vdn, vup, Zl, Zn, Zh, Zj, Zo, List.map_cons, List.map_nil, cond_true, cond_false, aop, Zv, Zq, Zp, ev, sput, Zt, Zy, Ya, unK, Zd, Zw, Nat.reduceBEq, Nat.reduceAdd, Int.reduceBEq, Int.reduceBNe, Int.reduceLT, Zu, Zz, tup, tyf]
    refine hA [(0, v), (2, .bool false), (3, x1), (4, .int .i64 0), (5, Zx (realL o).length), (6, .int .i64 0), (7, x3), (8, .int .i64 0)] _ _ ?_ (by simp (maxSteps := 2000000) only [↓Za, ↓Zm, ↓Zr, ↓Ze, ↓Zk, ↓Zs, ↓Zf, ↓Zi, ↓Zg, ↓Zc, ↓Zb, ↓vdn, vup, Zl, Zn, Zh, Zj, Zo, List.map_cons, List.map_nil, cond_true, cond_false, aop, Zv, Zq, Zp, ev, sput, Zt, Zy, Ya, unK, Zd, Zw, Nat.reduceBEq, Nat.reduceAdd, Int.reduceBEq, Int.reduceBNe, Int.reduceLT, Zu, Zz, tup, tyf])
    clear hA
    try clear A
    refine Yc fun N8 hN8 => ?_
    simp (maxSteps := 2000000) only [s10, ↓Za, ↓Zm, ↓Zr, ↓Ze, ↓Zk, ↓Zs, ↓Zf, ↓Zi, ↓Zg, ↓Zc, ↓Zb, ↓vdn, vup, Zl, Zn, Zh, Zj, Zo, List.map_cons, List.map_nil, cond_true, cond_false, aop, Zv, Zq, Zp, ev, sput, Zt, Zy, Ya, unK, Zd, Zw, Nat.reduceBEq, Nat.reduceAdd, Int.reduceBEq, Int.reduceBNe, Int.reduceLT, Zu, Zz, tup, tyf, Xf, List.nil_append, List.append_nil, List.toList_toArray, List.cons_append]
    refine (rReal_call hv3 ho).mono ?_
    rintro r4 h4 ⟨hE4, hr4⟩
    refine hN8 [(0, v), (2, .bool false), (3, x1), (4, .int .i64 0), (5, Zx (realL o).length), (6, .int .i64 0), (7, x3), (8, .int .i64 0), (9, r4)] _ _ ?_ (by simp (maxSteps := 2000000) only [↓Za, ↓Zm, ↓Zr, ↓Ze, ↓Zk, ↓Zs, ↓Zf, ↓Zi, ↓Zg, ↓Zc, ↓Zb, ↓vdn, vup, Zl, Zn, Zh, Zj, Zo, List.map_cons, List.map_nil, cond_true, cond_false, aop, Zv, Zq, Zp, ev, sput, Zt, Zy, Ya, unK, Zd, Zw, Nat.reduceBEq, Nat.reduceAdd, Int.reduceBEq, Int.reduceBNe, Int.reduceLT, Zu, Zz, tup, tyf])
    clear hN8
    try clear N8
    have hv4 := Yt hv3 hE4
    have h3l := (realL_facts ho).2
    refine Yl ?_
    simp (maxSteps := 2000000) only [s10, ↓Za, ↓Zm, ↓Zr, ↓Ze, ↓Zk, ↓Zs, ↓Zf, ↓Zi, ↓Zg, ↓Zc, ↓Zb, ↓vdn, vup, Zl, Zn, Zh, Zj, Zo, List.map_cons, List.map_nil, cond_true, cond_false, aop, Zv, Zq, Zp, ev, sput, Zt, Zy, Ya, unK, Zd, Zw, Nat.reduceBEq, Nat.reduceAdd, Int.reduceBEq, Int.reduceBNe, Int.reduceLT, Zu, Zz, tup, tyf, Xf, List.nil_append, List.append_nil, List.toList_toArray, List.cons_append]
    refine (equalFunc_call ((hr1.ext hE23).ext hE4) hr4 (by rw [realLL_len]; omega) (fun i hi => by rw [realLL_get ho hi]; exact hl)).mono ?_
    rintro _ _ ⟨rfl, rfl⟩
    simp (maxSteps := 2000000) only [s10, ↓Za, ↓Zm, ↓Zr, ↓Ze, ↓Zk, ↓Zs, ↓Zf, ↓Zi, ↓Zg, ↓Zc, ↓Zb, ↓vdn, vup, Zl, Zn, Zh, Zj, Zo, List.map_cons, List.map_nil, cond_true, cond_false, aop, Zv, Zq, Zp, ev, sput, Zt, Zy, Ya, unK, Zd, Zw, Nat.reduceBEq, Nat.reduceAdd, Int.reduceBEq, Int.reduceBNe, Int.reduceLT, Zu, Zz, tup, tyf, hr4.len, realLL_len, beq_self_eq_true, Xf, List.nil_append, List.append_nil, List.toList_toArray, List.cons_append]
    refine (rturn_call hv4 ho).mono ?_
    rintro r5 h5 ⟨hr5, hE5⟩
    have htl : (turnL o).length < 9223372036854775808 := by simp [turnL]; omega
    refine (equal_call (Yt (Yt hi3 hE4) hE5) hr5 htl htl).mono ?_
    rintro _ _ ⟨rfl, rfl⟩
    simp (maxSteps := 2000000) only [s10, ↓Za, ↓Zm, ↓Zr, ↓Ze, ↓Zk, ↓Zs, ↓Zf, ↓Zi, ↓Zg, ↓Zc, ↓Zb, ↓vdn, vup, Zl, Zn, Zh, Zj, Zo, List.map_cons, List.map_nil, cond_true, cond_false, aop, Zv, Zq, Zp, ev, sput, Zt, Zy, Ya, unK, Zd, Zw, Nat.reduceBEq, Nat.reduceAdd, Int.reduceBEq, Int.reduceBNe, Int.reduceLT, Zu, Zz, tup, tyf, z00, beq_self_eq_true, Xf, List.nil_append, List.append_nil, List.toList_toArray, List.cons_append]
    refine awake_call.mono ?_
    rintro _ _ ⟨rfl, rfl⟩
    simp (maxSteps := 2000000) only [s10, ↓Za, ↓Zm, ↓Zr, ↓Ze, ↓Zk, ↓Zs, ↓Zf, ↓Zi, ↓Zg, ↓Zc, ↓Zb, ↓vdn, vup, Zl, Zn, Zh, Zj, Zo, List.map_cons, List.map_nil, cond_true, cond_false, aop, Zv, Zq, Zp, ev, sput, Zt, Zy, Ya, unK, Zd, Zw, Nat.reduceBEq, Nat.reduceAdd, Int.reduceBEq, Int.reduceBNe, Int.reduceLT, Zu, Zz, tup, tyf]
end Go.Proofs.Tryd.Am

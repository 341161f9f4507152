/-
  sure: graphs that are made pair by pair; pairs of signals, by the program and by the reference.
  sure: Join and Sum, by the program and by the reference.
  sure: two graphs beside each other, by the program and by the reference.
  sure: the law SureJoins.
  Printed by gen.py: the code of some functions, without what no step looks at; held against the program's own by the kernel.
  sure: the law SurePairs.
  sure: weights of joined graphs.
  Sums of rows modulo 2, plain: how many rows a base has.
  Rows taken from each other until the rank is seen; the least rank of all choices of rows, plain.
  Products of rows modulo 2: vectors with duals are at most as many as their places. Plain Lean, no program.
  Printed by gen.py: the code of some functions, without what no step looks at; held against the program's own by the kernel.
  sure: the library's sort of a short slice, with the comparison that puts the greatest first.
  sure: the library's sort of a short slice: what stands ahead of the insertion.
  sure: a base with one row more.
  sure: the least rank, as the program finds it.
  sure: the reference's rank.
  sure: Fit, by the program and by the reference.
  sure: codes against weights and ranks.
  sure: determinants of few rows of 0 and 1 are small. Plain Lean, no program.
  sure: channels.
  Printed by gen.py: the code of some functions, without what no step looks at; held against the program's own by the kernel.
  sure: Confusions and Back.
  Printed by gen.py: the code of some functions, without what no step looks at; held against the program's own by the kernel.
-/
import Derived.Test.YtaagkbbphgdcdaaDoorPk6
import Derived.Test.YtaagkbbphgdcdaaDoorPk8
import Derived.Test.YtaagkbbphgdcdaaDoorPk7
import Derived.Test.YtaagkbbphgdcdaaDoorPk3
import Derived.Test.YtaagkbbphgdcdaaDoorProg
import Derived.KernelRfl
import Derived.Shelf.Abstract
import Derived.Test.YtaagkbbphgdcdaaDoorPk5
set_option linter.all false
namespace Go.Proofs.Tryd.Am
open Go.Am Sr
set_option maxRecDepth 100000
set_option maxHeartbeats 1000000

def rowsN (f : Nat → Nat → Nat) (m i j : Nat) : List Nat := (List.range m).map fun r => if r < i then f r m else if r = i then f r j else 0
section
variable {f : Nat → Nat → Nat} {m i j : Nat}
theorem Wo : (rowsN f m i j).length = m := by simp [rowsN]
theorem rowsN_at {t : Nat} (h : t < m) : (rowsN f m i j)[t]? = some (if t < i then f t m else if t = i then f t j else 0) := by
  rw [rowsN, List.getElem?_map, List.getElem?_range h]; rfl
theorem rowsN_get (hi : i < m) : (rowsN f m i j).getD i 0 = f i j := by
  rw [List.getD, rowsN_at hi, if_neg (Nat.lt_irrefl _), if_pos rfl]; rfl
theorem rowsN_zero (h0 : f 0 0 = 0) : rowsN f m 0 0 = List.replicate m 0 := by
  apply List.ext_getElem?
  intro t
  by_cases h : t < m
  · rw [rowsN_at h, List.getElem?_replicate, if_pos h, if_neg (Nat.not_lt_zero _)]
    by_cases e : t = 0
    · subst e; rw [if_pos rfl, h0]
    · rw [if_neg e]
  · rw [List.getElem?_eq_none (by rw [Wo]; omega), List.getElem?_eq_none (by simp; omega)]
theorem rowsN_set {k : Nat} : (rowsN f m i j).set i (f i k) = rowsN f m i k := by
  apply List.ext_getElem?
  intro t
  by_cases h : t < m
  · rw [List.getElem?_set, rowsN_at h, rowsN_at h, Wo]
    by_cases e : i = t
    · subst e; simp [h]
    · simp [e, Ne.symm e]
  · rw [List.getElem?_eq_none (by rw [List.length_set, Wo]; omega), List.getElem?_eq_none (by rw [Wo]; omega)]
theorem rowsN_next (h0 : ∀ r, f r 0 = 0) : rowsN f m i m = rowsN f m (i + 1) 0 := by
  apply List.ext_getElem?
  intro t
  by_cases h : t < m
  · rw [rowsN_at h, rowsN_at h, h0]
    by_cases h1 : t < i
    · rw [if_pos h1, if_pos (by omega)]
    · rw [if_neg h1]
      by_cases h2 : t = i
      · subst h2; rw [if_pos rfl, if_pos (by omega)]
      · rw [if_neg h2, if_neg (by omega)]; split <;> rfl
  · rw [List.getElem?_eq_none (by rw [Wo]; omega), List.getElem?_eq_none (by rw [Wo]; omega)]
theorem rowsN_all : rowsN f m m 0 = (List.range m).map fun r => f r m := by
  rw [rowsN]
  refine List.map_congr_left fun r hr => ?_
  rw [if_pos (List.mem_range.1 hr)]
end
def rwM (p : Nat → Nat → Bool) (i j : Nat) : Nat := mk (fun c => i != c && p i c) j
def mat (p : Nat → Nat → Bool) (m : Nat) : List Nat := (List.range m).map fun r => rwM p r m
theorem rwM_lt (p : Nat → Nat → Bool) (i j : Nat) : rwM p i j < 2 ^ j := mk_lt _ _
theorem rwM_yes {p : Nat → Nat → Bool} {i j : Nat} (hij : (i == j) = false) (hp : p i j = true) : rwM p i (j + 1) = rwM p i j ||| 2 ^ j := by
  rw [rwM, mk, if_pos (by rw [hp, bne, hij]; rfl)]; rfl
theorem rwM_no {p : Nat → Nat → Bool} {i j : Nat} (h : (i == j) = true ∨ p i j = false) : rwM p i (j + 1) = rwM p i j := by
  rw [rwM, mk, if_neg]
  · rfl
  · rcases h with h | h
    · rw [bne, h]; simp
    · rw [h, Bool.and_false]; decide
theorem mat_len (p : Nat → Nat → Bool) (m : Nat) : (mat p m).length = m := by simp [mat]

abbrev tabH (h : Zz) (L : List Nat) : Zz := h ++ [.ints (iL L) 3 false]
section
variable {h : Zz} {f : Nat → Nat → Nat} {m i j : Nat}
theorem tH_idx {t : TypeId} (he : elemOf' prog t = some 3) (hi : i < m) {K : Value → Prop} : Xa prog t (tv h.length m) (Zm i) K = K (.pointer (some ⟨h.length, i, none⟩)) := by
  have h1 := intSl_blk (Xn h (.ints (List.replicate m 0) 3 false))
  rw [List.length_replicate] at h1
  rw [h1.idx he Xg (by rw [List.length_replicate]; exact hi), elemP_new]
theorem tH_load (hi : i < m) {K : Value → Prop} : Xo prog (tabH h (rowsN f m i j)) 3 (.pointer (some ⟨h.length, i, none⟩)) K = K (Zm (f i j : Nat)) := by
  rw [tab_load (Xn _ _) Wo hi, rowsN_get hi]
theorem tH_store (hi : i < m) {k : Nat} {K : Zz → Prop} : Xq prog (tabH h (rowsN f m i j)) 3 (.pointer (some ⟨h.length, i, none⟩)) (Zm (f i k : Nat)) K = K (tabH h (rowsN f m i k)) := by
  rw [tab_store (Xn _ _) Wo hi, set_last, rowsN_set]
end

theorem s59_callW [Tabs Tryd.prog] {args : List Value} {h : Zz} {Q : Value → Zz → Prop} (hsz : args.length ≤ 38) (hk : AWS Tryd.prog 38 s59 (Zy Tryd.prog [.tmp 4] Q) (Zv 0 args) h) : ACall Tryd.prog 59 args h Q :=
  Xr Tryd.func59 rfl (enters_of Tryd.func59 (by kernel_rfl) rfl) rfl rfl (by decide) s59_strip s59_ok hsz hk
theorem made_call [Tabs prog] {h : Zz} {fv : Value} {p : Nat → Nat → Bool} {m : Nat} (hm : m ≤ 6) (hf : ∀ {hp : Zz}, Ext (fun _ => False) h hp → ∀ i j : Nat, i < m → j < m → ∀ {K : Value → Zz → Prop}, K (.bool (p i j)) hp → Xd prog false fv [Zm i, Zm j] hp K) :
    ACall prog 59 [Zm m, fv] h fun r h' => IntSl h' r (iL (mat p m)) ∧ Ext (fun _ => False) h h' := by
  have hnn : ∀ i : Nat, (0 : Int) ≤ (i : Int) := Int.natCast_nonneg
  refine s59_callW (by simp) ?_
  simp only [s59]
  refine Zx fun N1 hN1 => ?_
  simp (maxSteps := 2000000) only [s59, ↓Za, ↓Zi, ↓Zn, ↓Zg, ↓Zl, ↓Zw, ↓Zb, ↓Zc, ↓Zh, ↓Zd, ↓Zf, ↓vdn, vup, Zs, Zr, Zo, Zt, Zp, List.map_cons, List.map_nil, cond_true, cond_false, aop, Zk, Zu, Zv, ev, sput, Zj, Yb, Yc, unK, Ze, Ya, Nat.reduceBEq, Nat.reduceAdd, Int.reduceBEq, Int.reduceBNe, Int.reduceLT, Zy, Yf, tup, tyf]
  refine hN1 [(0, Zm m), (1, fv), (4, .slice none 0 0)] _ _ ?_ (by simp (maxSteps := 2000000) only [↓Za, ↓Zi, ↓Zn, ↓Zg, ↓Zl, ↓Zw, ↓Zb, ↓Zc, ↓Zh, ↓Zd, ↓Zf, ↓vdn, vup, Zs, Zr, Zo, Zt, Zp, List.map_cons, List.map_nil, cond_true, cond_false, aop, Zk, Zu, Zv, ev, sput, Zj, Yb, Yc, unK, Ze, Ya, Nat.reduceBEq, Nat.reduceAdd, Int.reduceBEq, Int.reduceBNe, Int.reduceLT, Zy, Yf, tup, tyf])
  clear hN1
  try clear N1
  have hr0 : List.replicate m (0 : Int) = iL (rowsN (rwM p) m 0 0) := by rw [rowsN_zero rfl]; simp [iL]
  refine Zx fun N2 hN2 => ?_
  simp (maxSteps := 2000000) only [s59, ↓Za, ↓Zi, ↓Zn, ↓Zg, ↓Zl, ↓Zw, ↓Zb, ↓Zc, ↓Zh, ↓Zd, ↓Zf, ↓vdn, vup, Zs, Zr, Zo, Zt, Zp, List.map_cons, List.map_nil, cond_true, cond_false, aop, Zk, Zu, Zv, ev, sput, Zj, Yb, Yc, unK, Ze, Ya, Nat.reduceBEq, Nat.reduceAdd, Int.reduceBEq, Int.reduceBNe, Int.reduceLT, Zy, Yf, tup, tyf, makeI el_56 zero_3 info_3 (Int.natCast_nonneg m) (show ((m : Nat) : Int) ≤ 35184372088832 by omega), Int.toNat_natCast, hr0]
  refine hN2 [(0, Zm m), (1, fv), (4, .slice none 0 0), (5, tv h.length m)] _ _ ?_ (by simp (maxSteps := 2000000) only [↓Za, ↓Zi, ↓Zn, ↓Zg, ↓Zl, ↓Zw, ↓Zb, ↓Zc, ↓Zh, ↓Zd, ↓Zf, ↓vdn, vup, Zs, Zr, Zo, Zt, Zp, List.map_cons, List.map_nil, cond_true, cond_false, aop, Zk, Zu, Zv, ev, sput, Zj, Yb, Yc, unK, Ze, Ya, Nat.reduceBEq, Nat.reduceAdd, Int.reduceBEq, Int.reduceBNe, Int.reduceLT, Zy, Yf, tup, tyf])
  clear hN2
  try clear N2
  refine Zx fun Z hZ => ?_
  simp (maxSteps := 2000000) only [s59, ↓Za, ↓Zi, ↓Zn, ↓Zg, ↓Zl, ↓Zw, ↓Zb, ↓Zc, ↓Zh, ↓Zd, ↓Zf, ↓vdn, vup, Zs, Zr, Zo, Zt, Zp, List.map_cons, List.map_nil, cond_true, cond_false, aop, Zk, Zu, Zv, ev, sput, Zj, Yb, Yc, unK, Ze, Ya, Nat.reduceBEq, Nat.reduceAdd, Int.reduceBEq, Int.reduceBNe, Int.reduceLT, Zy, Yf, tup, tyf, ↓Xm]
  refine Yg fun Q hQ => ?_
  have hE : ∀ i j, Ext (fun _ => False) h (tabH h (rowsN (rwM p) m i j)) := fun i j => Ext.app _ _ _
  refine Xe (γ := Nat) (fun i => i ≤ m)
    (fun i => ([(0, Zm m), (1, fv), (4, .slice none 0 0), (5, tv h.length m), (10, Zm m), (11, Zm i)], tabH h (rowsN (rwM p) m i 0))) (fun i => m - i) 0 (Nat.zero_le _) (by simp (maxSteps := 2000000) only [↓Za, ↓Zi, ↓Zn, ↓Zg, ↓Zl, ↓Zw, ↓Zb, ↓Zc, ↓Zh, ↓Zd, ↓Zf, ↓vdn, vup, Zs, Zr, Zo, Zt, Zp, List.map_cons, List.map_nil, cond_true, cond_false, aop, Zk, Zu, Zv, ev, sput, Zj, Yb, Yc, unK, Ze, Ya, Nat.reduceBEq, Nat.reduceAdd, Int.reduceBEq, Int.reduceBNe, Int.reduceLT, Zy, Yf, tup, tyf, Int.natCast_zero]) rfl ?_
  intro i hi
  refine Yg fun Q2 hQ2 => ?_
  simp only [l59_1]
  by_cases hin : (i : Int) < m
  · have hi' : i < m := by omega
    refine Zx fun N3 hN3 => ?_
    simp (maxSteps := 2000000) only [s59, ↓Za, ↓Zi, ↓Zn, ↓Zg, ↓Zl, ↓Zw, ↓Zb, ↓Zc, ↓Zh, ↓Zd, ↓Zf, ↓vdn, vup, Zs, Zr, Zo, Zt, Zp, List.map_cons, List.map_nil, cond_true, cond_false, aop, Zk, Zu, Zv, ev, sput, Zj, Yb, Yc, unK, Ze, Ya, Nat.reduceBEq, Nat.reduceAdd, Int.reduceBEq, Int.reduceBNe, Int.reduceLT, Zy, Yf, tup, tyf, hin]
    refine hN3 [(0, Zm m), (1, fv), (4, .slice none 0 0), (5, tv h.length m), (10, Zm m), (11, Zm i), (12, .bool true)] _ _ ?_ (by simp (maxSteps := 2000000) only [↓Za, ↓Zi, ↓Zn, ↓Zg, ↓Zl, ↓Zw, ↓Zb, ↓Zc, ↓Zh, ↓Zd, ↓Zf, ↓vdn, vup, Zs, Zr, Zo, Zt, Zp, List.map_cons, List.map_nil, cond_true, cond_false, aop, Zk, Zu, Zv, ev, sput, Zj, Yb, Yc, unK, Ze, Ya, Nat.reduceBEq, Nat.reduceAdd, Int.reduceBEq, Int.reduceBNe, Int.reduceLT, Zy, Yf, tup, tyf])
    clear hN3
    try clear N3
    refine Zx fun N4 hN4 => ?_
    simp (maxSteps := 2000000) only [s59, ↓Za, ↓Zi, ↓Zn, ↓Zg, ↓Zl, ↓Zw, ↓Zb, ↓Zc, ↓Zh, ↓Zd, ↓Zf, ↓vdn, vup, Zs, Zr, Zo, Zt, Zp, List.map_cons, List.map_nil, cond_true, cond_false, aop, Zk, Zu, Zv, ev, sput, Zj, Yb, Yc, unK, Ze, Ya, Nat.reduceBEq, Nat.reduceAdd, Int.reduceBEq, Int.reduceBNe, Int.reduceLT, Zy, Yf, tup, tyf]
    refine hN4 [(0, Zm m), (1, fv), (4, .slice none 0 0), (5, tv h.length m), (10, Zm m), (11, Zm i)] _ _ ?_ (by simp (maxSteps := 2000000) only [↓Za, ↓Zi, ↓Zn, ↓Zg, ↓Zl, ↓Zw, ↓Zb, ↓Zc, ↓Zh, ↓Zd, ↓Zf, ↓vdn, vup, Zs, Zr, Zo, Zt, Zp, List.map_cons, List.map_nil, cond_true, cond_false, aop, Zk, Zu, Zv, ev, sput, Zj, Yb, Yc, unK, Ze, Ya, Nat.reduceBEq, Nat.reduceAdd, Int.reduceBEq, Int.reduceBNe, Int.reduceLT, Zy, Yf, tup, tyf])
    clear hN4
    try clear N4
    refine Yd fun K hK => ?_
    refine Yh ?_
    refine Zx fun N5 hN5 => ?_
    simp (maxSteps := 2000000) only [s59, ↓Za, ↓Zi, ↓Zn, ↓Zg, ↓Zl, ↓Zw, ↓Zb, ↓Zc, ↓Zh, ↓Zd, ↓Zf, ↓vdn, vup, Zs, Zr, Zo, Zt, Zp, List.map_cons, List.map_nil, cond_true, cond_false, aop, Zk, Zu, Zv, ev, sput, Zj, Yb, Yc, unK, Ze, Ya, Nat.reduceBEq, Nat.reduceAdd, Int.reduceBEq, Int.reduceBNe, Int.reduceLT, Zy, Yf, tup, tyf]
    refine hN5 [(0, Zm m), (1, fv), (4, .slice none 0 0), (5, tv h.length m), (6, Zm i), (10, Zm m), (11, Zm i)] _ _ ?_ (by simp (maxSteps := 2000000) only [↓Za, ↓Zi, ↓Zn, ↓Zg, ↓Zl, ↓Zw, ↓Zb, ↓Zc, ↓Zh, ↓Zd, ↓Zf, ↓vdn, vup, Zs, Zr, Zo, Zt, Zp, List.map_cons, List.map_nil, cond_true, cond_false, aop, Zk, Zu, Zv, ev, sput, Zj, Yb, Yc, unK, Ze, Ya, Nat.reduceBEq, Nat.reduceAdd, Int.reduceBEq, Int.reduceBNe, Int.reduceLT, Zy, Yf, tup, tyf])
    clear hN5
    try clear N5
    refine Ye ?_
    simp (maxSteps := 2000000) only [s59, ↓Za, ↓Zi, ↓Zn, ↓Zg, ↓Zl, ↓Zw, ↓Zb, ↓Zc, ↓Zh, ↓Zd, ↓Zf, ↓vdn, vup, Zs, Zr, Zo, Zt, Zp, List.map_cons, List.map_nil, cond_true, cond_false, aop, Zk, Zu, Zv, ev, sput, Zj, Yb, Yc, unK, Ze, Ya, Nat.reduceBEq, Nat.reduceAdd, Int.reduceBEq, Int.reduceBNe, Int.reduceLT, Zy, Yf, tup, tyf, ↓Xm]
    refine Yg fun Q3 hQ3 => ?_
    refine aw_loop (γ := Nat) (fun j => j ≤ m)
      (fun j => ([(0, Zm m), (1, fv), (4, .slice none 0 0), (5, tv h.length m), (6, Zm i), (10, Zm m), (11, Zm i), (14, Zm m), (15, Zm j)], tabH h (rowsN (rwM p) m i j))) (fun j => m - j) 0 (Nat.zero_le _) (by simp (maxSteps := 2000000) only [↓Za, ↓Zi, ↓Zn, ↓Zg, ↓Zl, ↓Zw, ↓Zb, ↓Zc, ↓Zh, ↓Zd, ↓Zf, ↓vdn, vup, Zs, Zr, Zo, Zt, Zp, List.map_cons, List.map_nil, cond_true, cond_false, aop, Zk, Zu, Zv, ev, sput, Zj, Yb, Yc, unK, Ze, Ya, Nat.reduceBEq, Nat.reduceAdd, Int.reduceBEq, Int.reduceBNe, Int.reduceLT, Zy, Yf, tup, tyf, Int.natCast_zero]) rfl ?_
    intro j hj
    refine aw_hide fun Q4 hQ4 => ?_
    by_cases hjn : (j : Int) < m
    · have hj' : j < m := by omega
      have same : (i == j) = true ∨ p i j = false → tabH h (rowsN (rwM p) m i (j + 1)) = tabH h (rowsN (rwM p) m i j) := fun h1 => by
        rw [tabH, tabH, ← rowsN_set (j := j) (k := j + 1), rwM_no h1, rowsN_set]
      cases hij : (i == j) with
      | true =>
        simp (maxSteps := 2000000) only [s59, ↓Za, ↓Zi, ↓Zn, ↓Zg, ↓Zl, ↓Zw, ↓Zb, ↓Zc, ↓Zh, ↓Zd, ↓Zf, ↓vdn, vup, Zs, Zr, Zo, Zt, Zp, List.map_cons, List.map_nil, cond_true, cond_false, aop, Zk, Zu, Zv, ev, sput, Zj, Yb, Yc, unK, Ze, Ya, Nat.reduceBEq, Nat.reduceAdd, Int.reduceBEq, Int.reduceBNe, Int.reduceLT, Zy, Yf, tup, tyf, l59_0, hjn, bneN, hij, Bool.not_true, add1 (show j < 9223372036854775807 by omega)]
        exact hQ4 _ _ _ ⟨j + 1, by omega, by omega, by simp (maxSteps := 2000000) only [↓Za, ↓Zi, ↓Zn, ↓Zg, ↓Zl, ↓Zw, ↓Zb, ↓Zc, ↓Zh, ↓Zd, ↓Zf, ↓vdn, vup, Zs, Zr, Zo, Zt, Zp, List.map_cons, List.map_nil, cond_true, cond_false, aop, Zk, Zu, Zv, ev, sput, Zj, Yb, Yc, unK, Ze, Ya, Nat.reduceBEq, Nat.reduceAdd, Int.reduceBEq, Int.reduceBNe, Int.reduceLT, Zy, Yf, tup, tyf], (same (.inl hij)).symm⟩
      | false =>
        simp (maxSteps := 2000000) only [s59, ↓Za, ↓Zi, ↓Zn, ↓Zg, ↓Zl, ↓Zw, ↓Zb, ↓Zc, ↓Zh, ↓Zd, ↓Zf, ↓vdn, vup, Zs, Zr, Zo, Zt, Zp, List.map_cons, List.map_nil, cond_true, cond_false, aop, Zk, Zu, Zv, ev, sput, Zj, Yb, Yc, unK, Ze, Ya, Nat.reduceBEq, Nat.reduceAdd, Int.reduceBEq, Int.reduceBNe, Int.reduceLT, Zy, Yf, tup, tyf, l59_0, hjn, bneN, hij, Bool.not_false]
        refine hf (hE i j) i j hi' hj' ?_
        cases hp : p i j with
        | true =>
          have p1 := rwM_lt p i j
          have p2 : 2 ^ (j + 1) ≤ 2 ^ 6 := Nat.pow_le_pow_right (by decide) (by omega)
          have p3 : 2 ^ (j + 1) = 2 ^ j * 2 := Nat.pow_succ ..
          have hor : Wh .or .i64 ((rwM p i j : Nat) : Int) ((2 ^ j : Nat) : Int) = ((rwM p i (j + 1) : Nat) : Int) := by
            rw [bitsV_or (by omega) (by omega), rwM_yes hij hp]
          simp (maxSteps := 2000000) only [s59, ↓Za, ↓Zi, ↓Zn, ↓Zg, ↓Zl, ↓Zw, ↓Zb, ↓Zc, ↓Zh, ↓Zd, ↓Zf, ↓vdn, vup, Zs, Zr, Zo, Zt, Zp, List.map_cons, List.map_nil, cond_true, cond_false, aop, Zk, Zu, Zv, ev, sput, Zj, Yb, Yc, unK, Ze, Ya, Nat.reduceBEq, Nat.reduceAdd, Int.reduceBEq, Int.reduceBNe, Int.reduceLT, Zy, Yf, tup, tyf]
          refine Wn [] (by kernel_rfl) (by kernel_rfl) (by kernel_rfl) (by kernel_rfl) ?_
          simp (maxSteps := 2000000) only [s59, ↓Za, ↓Zi, ↓Zn, ↓Zg, ↓Zl, ↓Zw, ↓Zb, ↓Zc, ↓Zh, ↓Zd, ↓Zf, ↓vdn, vup, Zs, Zr, Zo, Zt, Zp, List.map_cons, List.map_nil, cond_true, cond_false, aop, Zk, Zu, Zv, ev, sput, Zj, Yb, Yc, unK, Ze, Ya, Nat.reduceBEq, Nat.reduceAdd, Int.reduceBEq, Int.reduceBNe, Int.reduceLT, Zy, Yf, tup, tyf, tH_idx el_56 hi', tH_load hi', hnn, shlI1 (show j ≤ 62 by omega), hor, tH_store hi', add1 (show j < 9223372036854775807 by omega)]
          exact hQ4 _ _ _ ⟨j + 1, by omega, by omega, by simp (maxSteps := 2000000) only [↓Za, ↓Zi, ↓Zn, ↓Zg, ↓Zl, ↓Zw, ↓Zb, ↓Zc, ↓Zh, ↓Zd, ↓Zf, ↓vdn, vup, Zs, Zr, Zo, Zt, Zp, List.map_cons, List.map_nil, cond_true, cond_false, aop, Zk, Zu, Zv, ev, sput, Zj, Yb, Yc, unK, Ze, Ya, Nat.reduceBEq, Nat.reduceAdd, Int.reduceBEq, Int.reduceBNe, Int.reduceLT, Zy, Yf, tup, tyf], rfl⟩
        | false =>
          simp (maxSteps := 2000000) only [s59, ↓Za, ↓Zi, ↓Zn, ↓Zg, ↓Zl, ↓Zw, ↓Zb, ↓Zc, ↓Zh, ↓Zd, ↓Zf, ↓vdn, vup, Zs, Zr, Zo, Zt, Zp, List.map_cons, List.map_nil, cond_true, cond_false, aop, Zk, Zu, Zv, ev, sput, Zj, Yb, Yc, unK, Ze, Ya, Nat.reduceBEq, Nat.reduceAdd, Int.reduceBEq, Int.reduceBNe, Int.reduceLT, Zy, Yf, tup, tyf, add1 (show j < 9223372036854775807 by omega)]
          exact hQ4 _ _ _ ⟨j + 1, by omega, by omega, by simp (maxSteps := 2000000) only [↓Za, ↓Zi, ↓Zn, ↓Zg, ↓Zl, ↓Zw, ↓Zb, ↓Zc, ↓Zh, ↓Zd, ↓Zf, ↓vdn, vup, Zs, Zr, Zo, Zt, Zp, List.map_cons, List.map_nil, cond_true, cond_false, aop, Zk, Zu, Zv, ev, sput, Zj, Yb, Yc, unK, Ze, Ya, Nat.reduceBEq, Nat.reduceAdd, Int.reduceBEq, Int.reduceBNe, Int.reduceLT, Zy, Yf, tup, tyf], (same (.inr hp)).symm⟩
    · obtain rfl : m = j := by omega
      simp (maxSteps := 2000000) only [s59, ↓Za, ↓Zi, ↓Zn, ↓Zg, ↓Zl, ↓Zw, ↓Zb, ↓Zc, ↓Zh, ↓Zd, ↓Zf, ↓vdn, vup, Zs, Zr, Zo, Zt, Zp, List.map_cons, List.map_nil, cond_true, cond_false, aop, Zk, Zu, Zv, ev, sput, Zj, Yb, Yc, unK, Ze, Ya, Nat.reduceBEq, Nat.reduceAdd, Int.reduceBEq, Int.reduceBNe, Int.reduceLT, Zy, Yf, tup, tyf, l59_0, Int.lt_irrefl]
      refine hQ4 _ _ _ (hQ3 _ _ _ ?_)
      simp (maxSteps := 2000000) only [s59, ↓Za, ↓Zi, ↓Zn, ↓Zg, ↓Zl, ↓Zw, ↓Zb, ↓Zc, ↓Zh, ↓Zd, ↓Zf, ↓vdn, vup, Zs, Zr, Zo, Zt, Zp, List.map_cons, List.map_nil, cond_true, cond_false, aop, Zk, Zu, Zv, ev, sput, Zj, Yb, Yc, unK, Ze, Ya, Nat.reduceBEq, Nat.reduceAdd, Int.reduceBEq, Int.reduceBNe, Int.reduceLT, Zy, Yf, tup, tyf, if_true]
      refine hK [(0, Zm m), (1, fv), (4, .slice none 0 0), (5, tv h.length m), (10, Zm m), (11, Zm i)] _ _ ?_ (by simp (maxSteps := 2000000) only [↓Za, ↓Zi, ↓Zn, ↓Zg, ↓Zl, ↓Zw, ↓Zb, ↓Zc, ↓Zh, ↓Zd, ↓Zf, ↓vdn, vup, Zs, Zr, Zo, Zt, Zp, List.map_cons, List.map_nil, cond_true, cond_false, aop, Zk, Zu, Zv, ev, sput, Zj, Yb, Yc, unK, Ze, Ya, Nat.reduceBEq, Nat.reduceAdd, Int.reduceBEq, Int.reduceBNe, Int.reduceLT, Zy, Yf, tup, tyf])
      clear hK
      try clear K
      refine Ye ?_
      simp (maxSteps := 2000000) only [s59, ↓Za, ↓Zi, ↓Zn, ↓Zg, ↓Zl, ↓Zw, ↓Zb, ↓Zc, ↓Zh, ↓Zd, ↓Zf, ↓vdn, vup, Zs, Zr, Zo, Zt, Zp, List.map_cons, List.map_nil, cond_true, cond_false, aop, Zk, Zu, Zv, ev, sput, Zj, Yb, Yc, unK, Ze, Ya, Nat.reduceBEq, Nat.reduceAdd, Int.reduceBEq, Int.reduceBNe, Int.reduceLT, Zy, Yf, tup, tyf, add1 (show i < 9223372036854775807 by omega)]
      refine hQ2 _ _ _ ⟨i + 1, by omega, by omega, by simp (maxSteps := 2000000) only [↓Za, ↓Zi, ↓Zn, ↓Zg, ↓Zl, ↓Zw, ↓Zb, ↓Zc, ↓Zh, ↓Zd, ↓Zf, ↓vdn, vup, Zs, Zr, Zo, Zt, Zp, List.map_cons, List.map_nil, cond_true, cond_false, aop, Zk, Zu, Zv, ev, sput, Zj, Yb, Yc, unK, Ze, Ya, Nat.reduceBEq, Nat.reduceAdd, Int.reduceBEq, Int.reduceBNe, Int.reduceLT, Zy, Yf, tup, tyf], ?_⟩
      simp only [tabH]
      rw [rowsN_next fun _ => rfl]
  · obtain rfl : m = i := by omega
    refine Zx fun K hK => ?_
    simp (maxSteps := 2000000) only [s59, ↓Za, ↓Zi, ↓Zn, ↓Zg, ↓Zl, ↓Zw, ↓Zb, ↓Zc, ↓Zh, ↓Zd, ↓Zf, ↓vdn, vup, Zs, Zr, Zo, Zt, Zp, List.map_cons, List.map_nil, cond_true, cond_false, aop, Zk, Zu, Zv, ev, sput, Zj, Yb, Yc, unK, Ze, Ya, Nat.reduceBEq, Nat.reduceAdd, Int.reduceBEq, Int.reduceBNe, Int.reduceLT, Zy, Yf, tup, tyf, Int.lt_irrefl]
    refine hK [(0, Zm m), (1, fv), (4, .slice none 0 0), (5, tv h.length m), (10, Zm m), (11, Zm m), (12, .bool false)] _ _ ?_ (by simp (maxSteps := 2000000) only [↓Za, ↓Zi, ↓Zn, ↓Zg, ↓Zl, ↓Zw, ↓Zb, ↓Zc, ↓Zh, ↓Zd, ↓Zf, ↓vdn, vup, Zs, Zr, Zo, Zt, Zp, List.map_cons, List.map_nil, cond_true, cond_false, aop, Zk, Zu, Zv, ev, sput, Zj, Yb, Yc, unK, Ze, Ya, Nat.reduceBEq, Nat.reduceAdd, Int.reduceBEq, Int.reduceBNe, Int.reduceLT, Zy, Yf, tup, tyf])
    clear hK
    try clear K
    refine Ye ?_
    simp (maxSteps := 2000000) only [s59, ↓Za, ↓Zi, ↓Zn, ↓Zg, ↓Zl, ↓Zw, ↓Zb, ↓Zc, ↓Zh, ↓Zd, ↓Zf, ↓vdn, vup, Zs, Zr, Zo, Zt, Zp, List.map_cons, List.map_nil, cond_true, cond_false, aop, Zk, Zu, Zv, ev, sput, Zj, Yb, Yc, unK, Ze, Ya, Nat.reduceBEq, Nat.reduceAdd, Int.reduceBEq, Int.reduceBNe, Int.reduceLT, Zy, Yf, tup, tyf]
    refine hQ2 _ _ _ (hQ _ _ _ ?_)
    simp (maxSteps := 2000000) only [s59, ↓Za, ↓Zi, ↓Zn, ↓Zg, ↓Zl, ↓Zw, ↓Zb, ↓Zc, ↓Zh, ↓Zd, ↓Zf, ↓vdn, vup, Zs, Zr, Zo, Zt, Zp, List.map_cons, List.map_nil, cond_true, cond_false, aop, Zk, Zu, Zv, ev, sput, Zj, Yb, Yc, unK, Ze, Ya, Nat.reduceBEq, Nat.reduceAdd, Int.reduceBEq, Int.reduceBNe, Int.reduceLT, Zy, Yf, tup, tyf, if_true]
    refine hZ [(0, Zm m), (1, fv), (4, .slice none 0 0), (5, tv h.length m)] _ _ ?_ (by simp (maxSteps := 2000000) only [↓Za, ↓Zi, ↓Zn, ↓Zg, ↓Zl, ↓Zw, ↓Zb, ↓Zc, ↓Zh, ↓Zd, ↓Zf, ↓vdn, vup, Zs, Zr, Zo, Zt, Zp, List.map_cons, List.map_nil, cond_true, cond_false, aop, Zk, Zu, Zv, ev, sput, Zj, Yb, Yc, unK, Ze, Ya, Nat.reduceBEq, Nat.reduceAdd, Int.reduceBEq, Int.reduceBNe, Int.reduceLT, Zy, Yf, tup, tyf])
    clear hZ
    try clear Z
    refine Ye ?_
    simp (maxSteps := 2000000) only [s59, ↓Za, ↓Zi, ↓Zn, ↓Zg, ↓Zl, ↓Zw, ↓Zb, ↓Zc, ↓Zh, ↓Zd, ↓Zf, ↓vdn, vup, Zs, Zr, Zo, Zt, Zp, List.map_cons, List.map_nil, cond_true, cond_false, aop, Zk, Zu, Zv, ev, sput, Zj, Yb, Yc, unK, Ze, Ya, Nat.reduceBEq, Nat.reduceAdd, Int.reduceBEq, Int.reduceBNe, Int.reduceLT, Zy, Yf, tup, tyf]
    have h1 := intSl_blk (Xn h (.ints (iL (rowsN (rwM p) m m 0)) 3 false))
    rw [iL_len, Wo, rowsN_all] at h1
    refine ⟨?_, Ext.app _ _ _⟩
    rw [tabH, rowsN_all]
    exact h1

/-! ### Pairs of signals -/
def nq (xs : List Int) (i j : Nat) : Bool := i == j || gb xs i j
end Go.Proofs.Tryd.Am

namespace Go.Proofs.Tryd.Am
open Go.Am Sr
set_option maxRecDepth 100000
set_option maxHeartbeats 1000000

end Go.Proofs.Tryd.Am

namespace Go.Proofs.Tryd.Am
open Go.Am Sr
set_option maxRecDepth 100000
set_option maxHeartbeats 1000000

def sumTo (xs ys : List Int) (j : Nat) : List Int := xs ++ (List.range j).map fun t => ((gn ys t * 2 ^ xs.length : Nat) : Int)
theorem sumTo_zero (xs ys : List Int) : sumTo xs ys 0 = xs := by simp [sumTo]
end Go.Proofs.Tryd.Am

namespace Go.Proofs.Tryd.Am
open Go.Am Sr
set_option maxRecDepth 100000
set_option maxHeartbeats 1000000

end Go.Proofs.Tryd.Am

namespace Go.Proofs.Tryd.Am
open Go.Am
set_option maxRecDepth 100000
end Go.Proofs.Tryd.Am

namespace Go.Proofs.Tryd.Am
open Go.Am Sr
set_option maxRecDepth 100000
set_option maxHeartbeats 1000000

theorem gb_mat {p : Nat → Nat → Bool} {m i j : Nat} (hi : i < m) : gb (iL (mat p m)) i j = (decide (j < m) && (i != j && p i j)) := by
  have e : (iL (mat p m)).getD i 0 = ((rwM p i m : Nat) : Int) := by
    rw [iL_get, mat, List.getD, List.getElem?_map, List.getElem?_range hi]; rfl
  rw [gb, e, Int.toNat_natCast, rwM, mk_bit]
theorem mat_gs {p : Nat → Nat → Bool} {m : Nat} (h1 : 1 ≤ m) (h6 : m ≤ 6) (hp : ∀ i j, i < m → j < m → p i j = p j i) : Gs (iL (mat p m)) := by
  have hl : (iL (mat p m)).length = m := by rw [iL_len, mat_len]
  refine ⟨by rw [hl]; exact h1, by rw [hl]; exact h6, fun i hi => ?_⟩
  rw [hl] at hi ⊢
  have e : (iL (mat p m)).getD i 0 = ((rwM p i m : Nat) : Int) := by
    rw [iL_get, mat, List.getD, List.getElem?_map, List.getElem?_range hi]; rfl
  refine ⟨?_, ?_, fun j hj => ?_⟩
  · have := rwM_lt p i m
    have h2 : ((2 ^ m : Nat) : Int) = (2 : Int) ^ m := by simp
    rw [e, ← h2]
    generalize 2 ^ m = z at this
    omega
  · rw [gb_mat hi]; simp
  · rw [gb_mat hi, gb_mat hj, hp i j hi hj]
    have : (i != j) = (j != i) := bne_comm
    rw [this]; simp [hi, hj]
section
variable {xs ys : List Int}
end
section
variable {xs : List Int}
end

end Go.Proofs.Tryd.Am

namespace Go.Proofs.Tryd.Am
open Go.Am Sr

section
variable {xs ys : List Int}
/-! ### Codes of single signals -/
theorem wn_one (xs : List Int) : wn xs 1 = xs.length := Nat.pow_one _
theorem cf_one {a b : Nat} (ha : a < xs.length) (hb : b < xs.length) : cf xs 1 a b = nq xs a b := by
  rw [cf, cf, Nat.mod_eq_of_lt ha, Nat.mod_eq_of_lt hb, Bool.and_true]; rfl
end
theorem mulB {a b : Int} {A B : Nat} (ha : a.natAbs ≤ A) (hb : b.natAbs ≤ B) (h : A * B < 9223372036854775808) : mulV .i64 a b = a * b ∧ (a * b).natAbs ≤ A * B := by
  have h1 : (a * b).natAbs ≤ A * B := by rw [Int.natAbs_mul]; exact Nat.mul_le_mul ha hb
  exact ⟨mulV_id (by omega) (by omega), h1⟩
theorem code1_ok {h' : Zz} {xs : List Int} {r : Value} (hg : grs xs = true) (hr : codeR h' xs 1 r) : ∃ w, r = .tuple #[w, .int .i64 0] ∧ OwnSl 3 h' w ((codeL (Wc xs 1)).map Int.ofNat) := by
  have h6 := (grs_iff.1 hg).2.1
  rw [codeR, if_pos ⟨hg, by decide, by decide⟩] at hr
  rw [if_pos (by show wn xs 1 ≤ 64; rw [wn_one]; omega)] at hr
  exact hr
theorem gs_rng {xs : List Int} (g : Gs xs) : ∀ x ∈ xs, -9223372036854775808 ≤ x ∧ x < 9223372036854775808 := fun x hx => by
  obtain ⟨t, ht, rfl⟩ := List.mem_iff_getElem.1 hx
  have := gs_lt g ht
  rw [List.getD, List.getElem?_eq_getElem ht, Option.getD_some] at this
  omega
end Go.Proofs.Tryd.Am

namespace Rn
def S : List Nat → Nat → Bool
  | [], y => y == 0
  | x :: l, y => S l y || S l (y ^^^ x)
theorem S_zero : ∀ l, S l 0 = true
  | [] => rfl
  | x :: l => by rw [S, S_zero l]; rfl
theorem Ws (a b : Nat) : (a ^^^ b) ^^^ b = a := by rw [Nat.xor_assoc, Nat.xor_self, Nat.xor_zero]
theorem S_xor : ∀ (l : List Nat) {a b : Nat}, S l a = true → S l b = true → S l (a ^^^ b) = true
  | [], a, b, ha, hb => by
    rw [S, beq_iff_eq] at ha hb ⊢; subst ha hb; rfl
  | x :: l, a, b, ha, hb => by
    rw [S, Bool.or_eq_true] at ha hb ⊢
    rcases ha with ha | ha <;> rcases hb with hb | hb
    · exact .inl (S_xor l ha hb)
    · right; have := S_xor l ha hb; rw [← Nat.xor_assoc] at this; exact this
    · right; have := S_xor l ha hb
      rw [Nat.xor_assoc, Nat.xor_comm x b, ← Nat.xor_assoc] at this; exact this
    · left; have := S_xor l ha hb
      rw [Nat.xor_assoc, Nat.xor_comm x, Ws] at this; exact this
theorem S_mem : ∀ {l : List Nat} {x : Nat}, x ∈ l → S l x = true
  | y :: l, x, h => by
    rw [S, Bool.or_eq_true]
    rcases List.mem_cons.1 h with rfl | h
    · right; rw [Nat.xor_self]; exact S_zero l
    · exact .inl (S_mem h)
theorem S_sub {m : List Nat} : ∀ {l : List Nat} {y : Nat}, (∀ x ∈ l, S m x = true) → S l y = true → S m y = true
  | [], y, _, h => by rw [S, beq_iff_eq] at h; subst h; exact S_zero m
  | x :: l, y, hm, h => by
    rw [S, Bool.or_eq_true] at h
    rcases h with h | h
    · exact S_sub (fun z hz => hm z (by simp [hz])) h
    · have h1 := S_sub (fun z hz => hm z (by simp [hz])) h
      have := S_xor m h1 (hm x (by simp))
      rw [Ws] at this; exact this
theorem S_eq {l m : List Nat} (h1 : ∀ x ∈ l, S m x = true) (h2 : ∀ x ∈ m, S l x = true) (y : Nat) : S l y = S m y := by
  rw [Bool.eq_iff_iff]; exact ⟨S_sub h1, S_sub h2⟩
/-! How many sums there are. -/
theorem cnt_sub {L : List Nat} (hL : L.Nodup) : ∀ l : List Nat, l.Nodup → (∀ x ∈ l, x ∈ L) → l.length ≤ L.length := by
  intro l hl hs
  induction l generalizing L with
  | nil => exact Nat.zero_le _
  | cons x l ih =>
    have hn := List.nodup_cons.1 hl
    have hx := hs x (by simp)
    have h1 := ih (L := L.erase x) (hL.erase x) hn.2 fun y hy => (List.mem_erase_of_ne (by rintro rfl; exact hn.1 hy)).2 (hs y (by simp [hy]))
    rw [List.length_erase_of_mem hx] at h1
    have := List.length_pos_of_mem hx
    rw [List.length_cons]; omega
theorem countP_xor_le {p : Nat → Bool} {x n : Nat} (hx : x < 2 ^ n) : (List.range (2 ^ n)).countP (fun y => p (y ^^^ x)) ≤ (List.range (2 ^ n)).countP p := by
  rw [List.countP_eq_length_filter, List.countP_eq_length_filter, ← List.length_map (f := fun y => y ^^^ x)]
  refine cnt_sub (List.Pairwise.filter _ List.nodup_range) _ ?_ fun z hz => ?_
  · rw [List.Nodup, List.pairwise_map]
    refine (List.Pairwise.filter _ List.nodup_range).imp fun h e => h ?_
    have := congrArg (· ^^^ x) e
    simp only [Ws] at this; exact this
  · obtain ⟨y, hy, rfl⟩ := List.mem_map.1 hz
    rw [List.mem_filter, List.mem_range] at hy ⊢
    exact ⟨Nat.xor_lt_two_pow hy.1 hx, hy.2⟩
theorem countP_xor {p : Nat → Bool} {x n : Nat} (hx : x < 2 ^ n) : (List.range (2 ^ n)).countP (fun y => p (y ^^^ x)) = (List.range (2 ^ n)).countP p := by
  refine Nat.le_antisymm (countP_xor_le hx) ?_
  have := countP_xor_le (p := fun y => p (y ^^^ x)) hx
  simp only [Ws] at this; exact this
theorem countP_or {p q : Nat → Bool} (h : ∀ y, p y = true → q y = false) : ∀ l : List Nat, l.countP (fun y => p y || q y) = l.countP p + l.countP q
  | [] => rfl
  | y :: l => by
    rw [List.countP_cons, List.countP_cons, List.countP_cons, countP_or h l]
    cases hp : p y with
    | true => rw [h y hp]; simp; omega
    | false => simp; omega
def Ind : List Nat → Prop
  | [] => True
  | x :: l => S l x = false ∧ Ind l
def cnt (n : Nat) (l : List Nat) : Nat := (List.range (2 ^ n)).countP (S l)
theorem cnt_nil (n : Nat) : cnt n [] = 1 := by
  have : ∀ m, 0 < m → (List.range m).countP (fun y => y == 0) = 1 := by
    intro m
    induction m with
    | zero => intro h; omega
    | succ m ih =>
      intro _
      rw [List.range_succ, List.countP_append]
      by_cases hm : m = 0
      · subst hm; rfl
      · rw [ih (by omega)]; simp [hm]
  exact this _ (Nat.two_pow_pos n)
theorem cnt_ind {n : Nat} : ∀ (l : List Nat), (∀ x ∈ l, x < 2 ^ n) → Ind l → cnt n l = 2 ^ l.length
  | [], _, _ => cnt_nil n
  | x :: l, hl, ⟨h1, h2⟩ => by
    have ih := cnt_ind l (fun z hz => hl z (by simp [hz])) h2
    have e : cnt n (x :: l) = (List.range (2 ^ n)).countP (S l) + (List.range (2 ^ n)).countP fun y => S l (y ^^^ x) := by
      refine countP_or (q := fun y => S l (y ^^^ x)) (fun y hy => ?_) _
      cases h : S l (y ^^^ x) with
      | false => rfl
      | true =>
        have := S_xor l hy h
        rw [← Nat.xor_assoc, Nat.xor_self, Nat.zero_xor, h1] at this; cases this
    rw [e, countP_xor (hl x (by simp))]
    unfold cnt at ih
    rw [ih, List.length_cons, Nat.pow_succ]; omega
def dim (n : Nat) (l : List Nat) : Nat := (cnt n l).log2
theorem dim_ind {n : Nat} {l : List Nat} (hl : ∀ x ∈ l, x < 2 ^ n) (h : Ind l) : dim n l = l.length := by rw [dim, cnt_ind l hl h, Nat.log2_two_pow]
theorem dim_congr {n : Nat} {l m : List Nat} (h : ∀ y, S l y = S m y) : dim n l = dim n m := by
  rw [dim, dim, cnt, cnt, List.countP_congr fun y _ => by rw [h y]]
theorem cnt_pos (n : Nat) (l : List Nat) : cnt n l ≠ 0 := by
  have : 0 < cnt n l := List.countP_pos_iff.2 ⟨0, List.mem_range.2 (Nat.two_pow_pos n), S_zero l⟩
  omega
theorem dim_mono {n : Nat} {l m : List Nat} (h : ∀ y, S l y = true → S m y = true) : dim n l ≤ dim n m := by
  have h1 : cnt n l ≤ cnt n m := List.countP_mono_left fun y _ => h y
  rw [dim, dim, Nat.le_log2 (cnt_pos n m)]
  exact Nat.le_trans (Nat.log2_self_le (cnt_pos n l)) h1

/-! Bases: each row has a greatest column of its own. -/
theorem bit_top {b : Nat} (h : b ≠ 0) : b.testBit b.log2 = true := Nat.testBit_log2 h
theorem bit_over {b j : Nat} (h : b.log2 < j) : b.testBit j = false := Nat.testBit_lt_two_pow (Nat.lt_of_lt_of_le Nat.lt_log2_self (Nat.pow_le_pow_right (by decide) h))
theorem lt_bit {n m i : Nat} (hn : n.testBit i = false) (hm : m.testBit i = true) (h : ∀ j, i < j → n.testBit j = m.testBit j) : n < m := by
  have e : n / 2 ^ (i + 1) = m / 2 ^ (i + 1) := by
    apply Nat.eq_of_testBit_eq
    intro j
    rw [Nat.testBit_div_two_pow, Nat.testBit_div_two_pow]; exact h _ (by omega)
  have h1 : n % 2 ^ (i + 1) < 2 ^ i := by
    refine Nat.lt_pow_two_of_testBit _ fun j hj => ?_
    rw [Nat.testBit_mod_two_pow]
    by_cases hji : j = i
    · subst hji; rw [hn, Bool.and_false]
    · have : ¬ j < i + 1 := by omega
      simp [this]
  have h2 : 2 ^ i ≤ m % 2 ^ (i + 1) := Nat.ge_two_pow_of_testBit (by rw [Nat.testBit_mod_two_pow, hm]; simp)
  have a := Nat.div_add_mod n (2 ^ (i + 1))
  have b := Nat.div_add_mod m (2 ^ (i + 1))
  rw [e] at a
  generalize 2 ^ (i + 1) * (m / 2 ^ (i + 1)) = q at a b
  omega
def mn (a b : Nat) : Nat := if b < a then b else a
theorem mn_bits {r b : Nat} (hb : b ≠ 0) : (mn r (r ^^^ b)).testBit b.log2 = false ∧ (∀ j, b.log2 < j → (mn r (r ^^^ b)).testBit j = r.testBit j) ∧ (mn r (r ^^^ b) = r ∨ mn r (r ^^^ b) = r ^^^ b) := by
  have hi : ∀ j, b.log2 < j → (r ^^^ b).testBit j = r.testBit j := fun j hj => by rw [Nat.testBit_xor, bit_over hj, Bool.xor_false]
  have ht : (r ^^^ b).testBit b.log2 = !r.testBit b.log2 := by rw [Nat.testBit_xor, bit_top hb, Bool.xor_true]
  cases hr : r.testBit b.log2 with
  | true =>
    rw [hr] at ht
    have : r ^^^ b < r := lt_bit ht hr hi
    rw [mn, if_pos this]
    exact ⟨ht, hi, .inr rfl⟩
  | false =>
    rw [hr] at ht
    have : r < r ^^^ b := lt_bit hr ht fun j hj => (hi j hj).symm
    rw [mn, if_neg (by omega)]
    exact ⟨hr, fun _ _ => rfl, .inl rfl⟩
def red (B : List Nat) (row : Nat) : Nat := B.foldl (fun r b => mn r (r ^^^ b)) row
def Bs (B : List Nat) : Prop := B.Pairwise (fun a b => b.log2 < a.log2) ∧ ∀ x ∈ B, x ≠ 0
theorem red_keep : ∀ (B : List Nat) (r j : Nat), (∀ b ∈ B, b ≠ 0 ∧ b.log2 < j) → (red B r).testBit j = r.testBit j
  | [], _, _, _ => rfl
  | b :: B, r, j, h => by
    have hb := h b (by simp)
    rw [red, List.foldl_cons]
    exact (red_keep B _ j fun c hc => h c (by simp [hc])).trans ((mn_bits hb.1).2.1 j hb.2)
theorem red_clear : ∀ (B : List Nat) (r : Nat), Bs B → ∀ b ∈ B, (red B r).testBit b.log2 = false
  | [], _, _, _, h => by cases h
  | c :: B, r, ⟨hp, h0⟩, b, hb => by
    rw [List.pairwise_cons] at hp
    have hc := h0 c (by simp)
    rw [red, List.foldl_cons]
    rcases List.mem_cons.1 hb with rfl | hb
    · exact (red_keep B _ _ fun d hd => ⟨h0 d (by simp [hd]), hp.1 d hd⟩).trans (mn_bits hc).1
    · exact red_clear B _ ⟨hp.2, fun x hx => h0 x (by simp [hx])⟩ b hb
theorem red_S {B : List Nat} : ∀ (l : List Nat) (r : Nat), (∀ b ∈ l, b ∈ B ∧ b ≠ 0) → S B (r ^^^ red l r) = true
  | [], r, _ => by rw [red, List.foldl_nil, Nat.xor_self]; exact S_zero B
  | b :: l, r, h => by
    have hb := h b (by simp)
    rw [red, List.foldl_cons]
    have h1 := red_S l (mn r (r ^^^ b)) fun c hc => h c (by simp [hc])
    rw [red] at h1
    rcases (mn_bits (r := r) hb.2).2.2 with e | e
    · rw [e] at h1 ⊢; exact h1
    · rw [e] at h1 ⊢
      have := S_xor B (S_mem hb.1) h1
      rw [← Nat.xor_assoc, Nat.xor_comm b, Ws] at this
      exact this
theorem red_top {B : List Nat} (hB : Bs B) {r : Nat} (h : red B r ≠ 0) : ∀ b ∈ B, (red B r).log2 ≠ b.log2 := fun b hb e => by
  have := red_clear B r hB b hb
  rw [← e, bit_top h] at this; cases this
theorem Bs.more {B C : List Nat} (hB : Bs B) {r : Nat} (h : red B r ≠ 0) (hm : ∀ x, x ∈ C ↔ x ∈ B ∨ x = red B r) (hs : C.Pairwise fun a b => b ≤ a) (hn : C.Nodup) : Bs C ∧ ∀ y, S C y = S (B ++ [r]) y := by
  have hd : ∀ x ∈ C, ∀ y ∈ C, x ≠ y → x.log2 ≠ y.log2 := by
    have dB : ∀ x ∈ B, ∀ y ∈ B, x ≠ y → x.log2 ≠ y.log2 := by
      intro x hx y hy hne
      obtain ⟨i, hi, rfl⟩ := List.getElem_of_mem hx
      obtain ⟨j, hj, rfl⟩ := List.getElem_of_mem hy
      rcases Nat.lt_trichotomy i j with h1 | h1 | h1
      · have := List.pairwise_iff_getElem.1 hB.1 i j hi hj h1; omega
      · subst h1; exact absurd rfl hne
      · have := List.pairwise_iff_getElem.1 hB.1 j i hj hi h1; omega
    intro x hx y hy hne
    rcases (hm x).1 hx with hx | rfl <;> rcases (hm y).1 hy with hy | rfl
    · exact dB x hx y hy hne
    · exact fun e => red_top hB h x hx e.symm
    · exact red_top hB h y hy
    · exact absurd rfl hne
  have h0 : ∀ x ∈ C, x ≠ 0 := fun x hx => by
    rcases (hm x).1 hx with hx | rfl
    · exact hB.2 x hx
    · exact h
  refine ⟨⟨?_, h0⟩, fun y => ?_⟩
  · rw [List.pairwise_iff_getElem] at hs ⊢
    intro i j hi hj hij
    have h1 := hs i j hi hj hij
    have h2 := hd C[i] (List.getElem_mem hi) C[j] (List.getElem_mem hj) (List.pairwise_iff_getElem.1 hn i j hi hj hij)
    have h3 : C[j].log2 ≤ C[i].log2 := by
      rw [Nat.le_log2 (h0 _ (List.getElem_mem hi))]
      exact Nat.le_trans (Nat.log2_self_le (h0 _ (List.getElem_mem hj))) h1
    omega
  · have hx := red_S (B := B) B r fun b hb => ⟨hb, hB.2 b hb⟩
    have up : ∀ {z}, S B z = true → S (B ++ [r]) z = true := fun hz => S_sub (fun x hx => S_mem (by simp [hx])) hz
    have upC : ∀ {z}, S B z = true → S C z = true := fun hz => S_sub (fun x hx => S_mem ((hm x).2 (.inl hx))) hz
    refine S_eq (fun x hxC => ?_) (fun x hxB => ?_) y
    · rcases (hm x).1 hxC with h1 | rfl
      · exact S_mem (by simp [h1])
      · have := S_xor (B ++ [r]) (S_mem (show r ∈ B ++ [r] by simp)) (up hx)
        rw [← Nat.xor_assoc, Nat.xor_self, Nat.zero_xor] at this; exact this
    · rcases List.mem_append.1 hxB with h1 | h1
      · exact S_mem ((hm x).2 (.inl h1))
      · obtain rfl := List.mem_singleton.1 h1
        have := S_xor C (upC hx) (S_mem ((hm _).2 (.inr rfl)))
        rw [Ws] at this; exact this
end Rn

namespace Rn
def rowsF (L : Nat → Nat) (n : Nat) : List Nat := (List.range n).map L
theorem Wi {L : Nat → Nat} {n x : Nat} : x ∈ rowsF L n ↔ ∃ i, i < n ∧ L i = x := by simp [rowsF]
theorem rowsF_S {L : Nat → Nat} {n i : Nat} (h : i < n) : S (rowsF L n) (L i) = true := S_mem (Wi.2 ⟨i, h, rfl⟩)
structure EI (n : Nat) (L0 L : Nat → Nat) (k c : Nat) (pv : Nat → Nat) : Prop where
  kn : k ≤ n
  lt : ∀ i, i < n → L i < 2 ^ n
  same : ∀ y, S (rowsF L n) y = S (rowsF L0 n) y
  piv : ∀ j, j < k → (L j).testBit (pv j) = true ∧ ∀ i, i < n → i ≠ j → (L i).testBit (pv j) = false
  low : ∀ i, k ≤ i → i < n → ∀ b, b < c → (L i).testBit b = false
section
variable {n k c a : Nat} {L0 L : Nat → Nat} {pv : Nat → Nat}
theorem EI.none (e : EI n L0 L k c pv) (h : ∀ i, k ≤ i → i < n → (L i).testBit c = false) : EI n L0 L k (c + 1) pv :=
  ⟨e.kn, e.lt, e.same, e.piv, fun i h1 h2 b hb => (Nat.lt_or_eq_of_le (Nat.le_of_lt_succ hb)).elim (fun hc => e.low i h1 h2 b hc) fun hc => by subst hc; exact h i h1 h2⟩
def swp (L : Nat → Nat) (k a : Nat) : Nat → Nat := fun i => if i = k then L a else if i = a then L k else L i
def elm (L : Nat → Nat) (k c : Nat) : Nat → Nat := fun i => if i ≠ k ∧ (L i).testBit c = true then L i ^^^ L k else L i
theorem swp_from (L : Nat → Nat) {k a n : Nat} (hk : k ≤ a) (ha : a < n) (i : Nat) (hi : i < n) : ∃ j, j < n ∧ swp L k a i = L j ∧ (k ≤ i → k ≤ j) ∧ (i < k → j = i) := by
  unfold swp
  by_cases h1 : i = k
  · rw [if_pos h1]; exact ⟨a, ha, rfl, fun _ => hk, fun h => by omega⟩
  · rw [if_neg h1]
    by_cases h2 : i = a
    · rw [if_pos h2]; exact ⟨k, by omega, rfl, fun _ => Nat.le_refl _, fun h => by omega⟩
    · rw [if_neg h2]; exact ⟨i, hi, rfl, fun h => h, fun _ => rfl⟩
theorem swp_to (L : Nat → Nat) {k a n : Nat} (hk : k ≤ a) (ha : a < n) (j : Nat) (hj : j < n) : ∃ i, i < n ∧ swp L k a i = L j := by
  by_cases h1 : j = a
  · exact ⟨k, by omega, by rw [swp, if_pos rfl, h1]⟩
  · by_cases h2 : j = k
    · refine ⟨a, ha, ?_⟩
      unfold swp
      rw [if_neg (by omega), if_pos rfl, h2]
    · exact ⟨j, hj, by rw [swp, if_neg h2, if_neg h1]⟩
theorem swp_S (hk : k ≤ a) (ha : a < n) (y : Nat) : S (rowsF (swp L k a) n) y = S (rowsF L n) y := by
  refine S_eq (fun x hx => ?_) (fun x hx => ?_) y
  · obtain ⟨i, hi, rfl⟩ := Wi.1 hx
    obtain ⟨j, hj, e, _⟩ := swp_from L hk ha i hi
    rw [e]; exact rowsF_S hj
  · obtain ⟨j, hj, rfl⟩ := Wi.1 hx
    obtain ⟨i, hi, e⟩ := swp_to L hk ha j hj
    rw [← e]; exact rowsF_S hi
theorem elm_S (hk : k < n) (y : Nat) : S (rowsF (elm L k c) n) y = S (rowsF L n) y := by
  have ek : elm L k c k = L k := by rw [elm, if_neg (by simp)]
  refine S_eq (fun x hx => ?_) (fun x hx => ?_) y
  · obtain ⟨i, hi, rfl⟩ := Wi.1 hx
    unfold elm
    split
    · exact S_xor _ (rowsF_S hi) (rowsF_S hk)
    · exact rowsF_S hi
  · obtain ⟨i, hi, rfl⟩ := Wi.1 hx
    have h1 := rowsF_S (L := elm L k c) hi
    have h2 := rowsF_S (L := elm L k c) hk
    rw [ek] at h2
    unfold elm at h1
    split at h1
    · have := S_xor _ h1 h2
      rw [Ws] at this; exact this
    · exact h1
theorem EI.some (e : EI n L0 L k c pv) (hk : k ≤ a) (ha : a < n) (hb : (L a).testBit c = true) : EI n L0 (elm (swp L k a) k c) (k + 1) (c + 1) fun j => if j = k then c else pv j := by
  have hkn : k < n := by omega
  have srow : swp L k a k = L a := by rw [swp, if_pos rfl]
  have ek : elm (swp L k a) k c k = L a := by rw [elm, if_neg (by simp), srow]
  have other : ∀ i, i ≠ k → elm (swp L k a) k c i = if (swp L k a i).testBit c = true then swp L k a i ^^^ L a else swp L k a i := fun i hi => by
    unfold elm; rw [srow]
    by_cases h : (swp L k a i).testBit c = true
    · rw [if_pos ⟨hi, h⟩, if_pos h]
    · rw [if_neg (fun h2 => h h2.2), if_neg h]
  refine ⟨by omega, fun i hi => ?_, fun y => ?_, fun j hj => ?_, fun i h1 h2 b hbc => ?_⟩
  · obtain ⟨j, hj, es, _⟩ := swp_from L hk ha i hi
    unfold elm
    rw [srow, es]
    split
    · exact Nat.xor_lt_two_pow (e.lt j hj) (e.lt a ha)
    · exact e.lt j hj
  · rw [elm_S hkn, swp_S hk ha]; exact e.same y
  · by_cases hjk : j = k
    · subst hjk
      rw [if_pos rfl, ek]
      refine ⟨hb, fun i hi hne => ?_⟩
      rw [other i hne]
      cases h : (swp L j a i).testBit c with
      | true => rw [if_pos rfl, Nat.testBit_xor, h, hb]; rfl
      | false => rw [if_neg (by decide), h]
    · rw [if_neg hjk]
      have hj' : j < k := by omega
      obtain ⟨p1, p2⟩ := e.piv j hj'
      have ra := p2 a ha (by omega)
      refine ⟨?_, fun i hi hne => ?_⟩
      · rw [other j hjk]
        obtain ⟨j2, _, es, _, e2⟩ := swp_from L hk ha j (by omega)
        rw [es, e2 hj']
        split
        · rw [Nat.testBit_xor, p1, ra]; rfl
        · exact p1
      · by_cases hik : i = k
        · subst hik; rw [ek]; exact ra
        · rw [other i hik]
          obtain ⟨i2, hi2, es, g1, g2⟩ := swp_from L hk ha i hi
          have hne2 : i2 ≠ j := by
            by_cases h : i < k
            · rw [g2 h]; exact hne
            · have := g1 (by omega); omega
          have r2 := p2 i2 hi2 hne2
          rw [es]
          split
          · rw [Nat.testBit_xor, r2, ra]; rfl
          · exact r2
  · have hik : i ≠ k := by omega
    rw [other i hik]
    by_cases hc : b = c
    · subst hc
      cases h : (swp L k a i).testBit b with
      | true => rw [if_pos rfl, Nat.testBit_xor, h, hb]; rfl
      | false => rw [if_neg (by decide), h]
    · obtain ⟨i2, hi2, es, g1, _⟩ := swp_from L hk ha i h2
      have r1 := e.low i2 (g1 (by omega)) hi2 b (by omega)
      have r2 := e.low a hk ha b (by omega)
      rw [es]
      split
      · rw [Nat.testBit_xor, r1, r2]; rfl
      · exact r1
theorem S_bit {p : Nat} : ∀ {l : List Nat} {y : Nat}, (∀ z ∈ l, z.testBit p = false) → S l y = true → y.testBit p = false
  | [], y, _, h => by rw [S, beq_iff_eq] at h; subst h; exact Nat.zero_testBit p
  | x :: l, y, hl, h => by
    rw [S, Bool.or_eq_true] at h
    rcases h with h | h
    · exact S_bit (fun z hz => hl z (by simp [hz])) h
    · have h1 := S_bit (fun z hz => hl z (by simp [hz])) h
      rw [Nat.testBit_xor, hl x (by simp), Bool.xor_false] at h1; exact h1
theorem ind_piv (L : Nat → Nat) (pv : Nat → Nat) : ∀ (k : Nat), (∀ j, j < k → (L j).testBit (pv j) = true ∧ ∀ i, i < k → i ≠ j → (L i).testBit (pv j) = false) → Ind (rowsF L k).reverse
  | 0, _ => trivial
  | k + 1, h => by
    have e : (rowsF L (k + 1)).reverse = L k :: (rowsF L k).reverse := by simp [rowsF, List.range_succ]
    rw [e]
    refine ⟨?_, ind_piv L pv k fun j hj => ⟨(h j (by omega)).1, fun i hi hne => (h j (by omega)).2 i (by omega) hne⟩⟩
    cases hs : S (rowsF L k).reverse (L k) with
    | false => rfl
    | true =>
      have := S_bit (p := pv k) (fun z hz => by
        obtain ⟨i, hi, rfl⟩ := Wi.1 (List.mem_reverse.1 hz)
        exact (h k (by omega)).2 i (by omega) (by omega)) hs
      rw [(h k (by omega)).1] at this; cases this
theorem zero_low {x n : Nat} (h : x < 2 ^ n) (hb : ∀ b, b < n → x.testBit b = false) : x = 0 := by
  apply Nat.eq_of_testBit_eq
  intro i
  rw [Nat.zero_testBit]
  by_cases hi : i < n
  · exact hb i hi
  · exact Nat.testBit_lt_two_pow (Nat.lt_of_lt_of_le h (Nat.pow_le_pow_right (by decide) (by omega)))
theorem EI.fin (e : EI n L0 L k n pv) : dim n (rowsF L0 n) = k := by
  have h1 : ∀ y, S (rowsF L0 n) y = S (rowsF L k).reverse y := fun y => by
    rw [← e.same y]
    refine S_eq (fun x hx => ?_) (fun x hx => ?_) y
    · obtain ⟨i, hi, rfl⟩ := Wi.1 hx
      by_cases hik : i < k
      · exact S_mem (List.mem_reverse.2 (Wi.2 ⟨i, hik, rfl⟩))
      · rw [zero_low (e.lt i hi) (e.low i (by omega) hi)]; exact S_zero _
    · obtain ⟨i, hi, rfl⟩ := Wi.1 (List.mem_reverse.1 hx)
      have := e.kn
      exact rowsF_S (by omega)
  have hkn := e.kn
  rw [dim_congr h1, dim_ind (fun x hx => by
    obtain ⟨i, hi, rfl⟩ := Wi.1 (List.mem_reverse.1 hx)
    exact e.lt i (by omega)) (ind_piv L pv k fun j hj => ⟨(e.piv j hj).1, fun i hi hne => (e.piv j hj).2 i (by omega) hne⟩)]
  simp [rowsF]
end

/-! The least of b and of some numbers. -/
def IsMin (b : Nat) (P : Nat → Prop) (v : Nat) : Prop := (v = b ∨ P v) ∧ v ≤ b ∧ ∀ w, P w → v ≤ w
theorem IsMin.next {b v w : Nat} {P P' : Nat → Prop} (h1 : IsMin b P v) (h2 : IsMin v P' w) : IsMin b (fun x => P x ∨ P' x) w := by
  obtain ⟨a1, b1, c1⟩ := h1
  obtain ⟨a2, b2, c2⟩ := h2
  refine ⟨?_, by omega, fun x hx => ?_⟩
  · rcases a2 with rfl | h
    · exact a1.imp id .inl
    · exact .inr (.inr h)
  · rcases hx with h | h
    · have := c1 x h; omega
    · exact c2 x h
theorem IsMin.congr {b v : Nat} {P P' : Nat → Prop} (h1 : IsMin b P v) (h : ∀ x, P x ↔ P' x) : IsMin b P' v :=
  ⟨h1.1.imp id (h v).1, h1.2.1, fun w hw => h1.2.2 w ((h w).2 hw)⟩
theorem IsMin.skip {b : Nat} {P : Nat → Prop} (h : ∀ w, P w → b ≤ w) : IsMin b P b := ⟨.inl rfl, Nat.le_refl _, h⟩

def okRow (g : Nat → Nat) (n i r : Nat) : Prop := r < 2 ^ n ∧ r.testBit i = true ∧ ∀ b, b ≠ i → r.testBit b = true → (g i).testBit b = true
def Cm (g : Nat → Nat) (n : Nat) : Nat → Nat → List Nat → Prop
  | 0, _, c => c = []
  | k + 1, i, c => ∃ r d, c = r :: d ∧ okRow g n i r ∧ Cm g n k (i + 1) d
def Rk (g : Nat → Nat) (n k i : Nat) (R : List Nat) (w : Nat) : Prop := ∃ c, Cm g n k i c ∧ w = dim n (R ++ c)
theorem S_app2 {l m : List Nat} (h : ∀ y, S l y = S m y) (c : List Nat) (y : Nat) : S (l ++ c) y = S (m ++ c) y := by
  have key : ∀ {l m : List Nat}, (∀ y, S l y = S m y) → ∀ x ∈ l ++ c, S (m ++ c) x = true := by
    intro l m h x hx
    rcases List.mem_append.1 hx with hx | hx
    · have h1 : S m x = true := by rw [← h]; exact S_mem hx
      exact S_sub (fun z hz => S_mem (List.mem_append_left _ hz)) h1
    · exact S_mem (List.mem_append_right _ hx)
  exact S_eq (key h) (key fun y => (h y).symm) y
theorem Rk.congr {g : Nat → Nat} {n k i : Nat} {R R' : List Nat} (h : ∀ y, S R y = S R' y) (w : Nat) : Rk g n k i R w ↔ Rk g n k i R' w := by
  constructor
  · rintro ⟨c, hc, e⟩; exact ⟨c, hc, by rw [e, dim_congr (S_app2 h c)]⟩
  · rintro ⟨c, hc, e⟩; exact ⟨c, hc, by rw [e, dim_congr (S_app2 h c)]⟩
theorem Rk.zero {g : Nat → Nat} {n i : Nat} {R : List Nat} (w : Nat) : Rk g n 0 i R w ↔ w = dim n R := by
  constructor
  · rintro ⟨c, hc, e⟩; rw [Cm] at hc; subst hc; rw [List.append_nil] at e; exact e
  · intro e; exact ⟨[], rfl, by rw [List.append_nil]; exact e⟩
theorem Rk.succ {g : Nat → Nat} {n k i : Nat} {R : List Nat} (w : Nat) : Rk g n (k + 1) i R w ↔ ∃ r, okRow g n i r ∧ Rk g n k (i + 1) (R ++ [r]) w := by
  constructor
  · rintro ⟨c, ⟨r, d, rfl, h1, h2⟩, e⟩
    exact ⟨r, h1, d, h2, by rw [e, List.append_assoc]; rfl⟩
  · rintro ⟨r, h1, d, h2, e⟩
    exact ⟨r :: d, ⟨r, d, rfl, h1, h2⟩, by rw [e, List.append_assoc]; rfl⟩
theorem Rk.ge {g : Nat → Nat} {n k i : Nat} {R : List Nat} {w : Nat} (h : Rk g n k i R w) : dim n R ≤ w := by
  obtain ⟨c, _, rfl⟩ := h
  exact dim_mono fun y hy => S_sub (fun z hz => S_mem (List.mem_append_left _ hz)) hy
end Rn

namespace Rn
open Sr

end Rn

namespace Go.Proofs.Tryd.Am
open Go.Am
set_option maxRecDepth 100000
end Go.Proofs.Tryd.Am

namespace Go.Proofs.Tryd.Am
open Go.Am Sr
set_option maxRecDepth 100000
set_option maxHeartbeats 1000000

def swL (L : List Nat) (j : Nat) : List Nat := (L.set j (L.getD (j - 1) 0)).set (j - 1) (L.getD j 0)
theorem swL_get {L : List Nat} {j : Nat} (h1 : 1 ≤ j) (h2 : j < L.length) (t : Nat) : (swL L j).getD t 0 = if t = j - 1 then L.getD j 0 else if t = j then L.getD (j - 1) 0 else L.getD t 0 := by
  rw [swL, getD_setN (by rw [List.length_set]; omega), getD_setN h2]
def SrtTo (L : List Nat) (i : Nat) : Prop := ∀ p q, p < q → q < i → L.getD q 0 ≤ L.getD p 0
def SrtBut (L : List Nat) (i j : Nat) : Prop := ∀ p q, p < q → q ≤ i → q ≠ j → L.getD q 0 ≤ L.getD p 0
theorem SrtBut.step {L : List Nat} {i j : Nat} (h : SrtBut L i j) (h1 : 1 ≤ j) (h2 : j < L.length) (hj : j ≤ i) (hlt : L.getD (j - 1) 0 < L.getD j 0) : SrtBut (swL L j) i (j - 1) := by
  intro p q hpq hq hne
  rw [swL_get h1 h2, swL_get h1 h2, if_neg hne]
  by_cases hqj : q = j
  · rw [if_pos hqj]
    by_cases hp : p = j - 1
    · rw [if_pos hp]; omega
    · rw [if_neg hp, if_neg (by omega)]
      exact h p (j - 1) (by omega) (by omega) (by omega)
  · rw [if_neg hqj]
    by_cases hp : p = j - 1
    · rw [if_pos hp]; exact h j q (by omega) hq hqj
    · rw [if_neg hp]
      by_cases hpj : p = j
      · rw [if_pos hpj]; exact h (j - 1) q (by omega) hq hqj
      · rw [if_neg hpj]; exact h p q hpq hq hqj
theorem SrtBut.done {L : List Nat} {i j : Nat} (h : SrtBut L i j) (hj : j = 0 ∨ L.getD j 0 ≤ L.getD (j - 1) 0) : SrtTo L (i + 1) := by
  intro p q hpq hq
  by_cases hqj : q = j
  · subst hqj
    rcases hj with hj | hj
    · omega
    · by_cases hp : p = q - 1
      · subst hp; exact hj
      · exact Nat.le_trans hj (h p (q - 1) (by omega) (by omega) (by omega))
  · exact h p q hpq (by omega) hqj
theorem SrtTo.pw {L : List Nat} (h : SrtTo L L.length) : L.Pairwise fun a b => b ≤ a := by
  rw [List.pairwise_iff_getElem]
  intro i j hi hj hij
  have := h i j hij hj
  rw [List.getD, List.getD, List.getElem?_eq_getElem hi, List.getElem?_eq_getElem hj] at this
  exact this

abbrev ov (b n m : Nat) : Value := .slice (some ⟨b, 0, some 0⟩) n (n + m)
end Go.Proofs.Tryd.Am

namespace Go.Proofs.Tryd.Am
open Go.Am Sr
set_option maxRecDepth 100000
set_option maxHeartbeats 1000000

end Go.Proofs.Tryd.Am

namespace Go.Proofs.Tryd.Am
open Go.Am Sr
set_option maxRecDepth 100000
set_option maxHeartbeats 1000000

def SpSl (h : Zz) (v : Value) (B : List Nat) : Prop := (v = .slice none 0 0 ∧ B = []) ∨ (B ≠ [] ∧ IntSl h v (iL B))
theorem SpSl.int {h : Zz} {v : Value} {B : List Nat} (hv : SpSl h v B) : IntSl h v (iL B) := by
  rcases hv with ⟨rfl, rfl⟩ | ⟨_, h⟩
  · exact .inl ⟨rfl, rfl⟩
  · exact h
theorem SpSl.ext {h h' : Zz} {v : Value} {B : List Nat} (hv : SpSl h v B) (hE : Ext (fun _ => False) h h') : SpSl h' v B := hv.imp id fun h => ⟨h.1, Wq h.2 hE⟩
theorem getD_mem {B : List Nat} {j : Nat} (hj : j < B.length) : B.getD j 0 ∈ B := by
  rw [List.getD, List.getElem?_eq_getElem hj]; exact List.getElem_mem hj

end Go.Proofs.Tryd.Am

namespace Go.Proofs.Tryd.Am
open Go.Am Sr
set_option maxRecDepth 100000
set_option maxHeartbeats 1000000

structure FH (h : Zz) (gv : Value) (bb bg bx bf : Nat) : Prop where
  g : h[bg]? = some (.cells [gv] 22 false)
  x : h[bx]? = some (.cells [gv] 56 false)
  f : h[bf]? = some (.cells [.func (.func 74) #[] #[pt bb, pt bg, pt bx, pt bf]] 75 false)
  ng : bg ≠ bb
  nx : bx ≠ bb
  nf : bf ≠ bb
theorem FH.ext {h h' : Zz} {gv : Value} {bb bg bx bf : Nat} (f : FH h gv bb bg bx bf) (hE : Ext (fun i => i = bb) h h') : FH h' gv bb bg bx bf :=
  { f with g := (hE.2 _ (Xc f.g) f.ng).trans f.g, x := (hE.2 _ (Xc f.x) f.nx).trans f.x, f := (hE.2 _ (Xc f.f) f.nf).trans f.f }
end Go.Proofs.Tryd.Am

namespace Go.Proofs.Tryd.Am
open Go.Am Sr
set_option maxRecDepth 100000
set_option maxHeartbeats 1000000

def c5 (L : Nat → Nat) : List Value := (List.range 5).map fun i => Zm (L i : Nat)
def upd (L : Nat → Nat) (i x : Nat) : Nat → Nat := fun t => if t = i then x else L t
section
variable {h : Zz} {b i : Nat} {L : Nat → Nat}
end
end Go.Proofs.Tryd.Am

namespace Go.Proofs.Tryd.Am
open Go.Am Sr
set_option maxRecDepth 100000
set_option maxHeartbeats 1000000

end Go.Proofs.Tryd.Am

namespace Go.Proofs.Tryd.Am
open Go.Am Sr

theorem one_place {n : Nat} {p : Nat → Bool} (h : ∀ a b, a < n → b < n → p a = true → p b = true → a = b) : Bq.sumTo (fun a => if p a = true then (1 : Rat) else 0) n = if (List.range n).any p = true then 1 else 0 := by
  by_cases hc : (List.range n).any p = true
  · rw [if_pos hc]
    obtain ⟨a, ha, hp⟩ := List.any_eq_true.1 hc
    rw [List.mem_range] at ha
    refine (Bq.sumTo_congr fun b hb => ?_).trans (Bq.sumTo_pick (fun _ => (1 : Rat)) ha)
    by_cases e : b = a
    · rw [e, if_pos hp, if_pos rfl]
    · rw [if_neg e, if_neg fun hb2 => e (h b a hb ha hb2 hp)]
  · rw [if_neg hc]
    refine Bq.sumTo_zero fun a ha => if_neg fun hp => hc (List.any_eq_true.2 ⟨a, List.mem_range.2 ha, hp⟩)
theorem count_sum (p : Nat → Bool) : ∀ n, Bq.sumTo (fun w => if p w = true then (1 : Rat) else 0) n = (((List.range n).countP p : Nat) : Rat)
  | 0 => rfl
  | n + 1 => by
    rw [Bq.sumTo, count_sum p n, List.range_succ, List.countP_append, Rat.natCast_add]
    congr 1
    cases hp : p n <;> simp [hp]
theorem code_nat {xs : List Int} {k : Nat} {c : List Int} (hc : code xs k c = true) : (c.map Int.toNat).Nodup ∧ (∀ w ∈ c.map Int.toNat, w < wn xs k) ∧ ∀ w v, w ∈ c.map Int.toNat → v ∈ c.map Int.toNat → w ≠ v → cf xs k w v = false ∨ cf xs k v w = false := by
  obtain ⟨h1, h2⟩ := code_pw.1 hc
  refine ⟨?_, fun w hw => ?_, fun w v hw hv hne => ?_⟩
  · refine List.pairwise_map.2 (h2.imp_of_mem fun {x y} hx hy h => ?_)
    have := h1 x hx
    have := h1 y hy
    have := h.1
    omega
  · obtain ⟨x, hx, rfl⟩ := List.mem_map.1 hw
    have := h1 x hx
    omega
  · obtain ⟨x, hx, rfl⟩ := List.mem_map.1 hw
    obtain ⟨y, hy, rfl⟩ := List.mem_map.1 hv
    obtain ⟨i, hi, rfl⟩ := List.mem_iff_getElem.1 hx
    obtain ⟨j, hj, rfl⟩ := List.mem_iff_getElem.1 hy
    have h3 := List.pairwise_iff_getElem.1 h2
    rcases Nat.lt_trichotomy i j with h | h | h
    · exact .inr (h3 i j hi hj h).2
    · subst h; exact absurd rfl hne
    · exact .inl (h3 j i hj hi h).2
theorem code_cf {xs : List Int} (g : Gs xs) {k : Nat} {c : List Int} (hc : code xs k c = true) {w v : Nat} (hw : w ∈ c.map Int.toNat) (hv : v ∈ c.map Int.toNat) (hne : w ≠ v) : cf xs k w v = false := by
  rcases (code_nat hc).2.2 w v hw hv hne with h | h
  · exact h
  · rw [cf_comm g]; exact h
end Go.Proofs.Tryd.Am

namespace Bq

def B4 : List (List Int) := [0, 1].flatMap fun a => [0, 1].flatMap fun b => [0, 1].flatMap fun c => [0, 1].map fun d => [a, b, c, d]
def pl (a b : List Int) : List Int := match a, b with
  | [a0, a1, a2, a3], [b0, b1, b2, b3] => [a0 * b1 - a1 * b0, a0 * b2 - a2 * b0, a0 * b3 - a3 * b0, a1 * b2 - a2 * b1, a1 * b3 - a3 * b1, a2 * b3 - a3 * b2]
  | _, _ => []
def lap (p q : List Int) : Int := match p, q with
  | [p0, p1, p2, p3, p4, p5], [q0, q1, q2, q3, q4, q5] => p0 * q5 - p1 * q4 + p2 * q3 + p3 * q2 - p4 * q1 + p5 * q0
  | _, _ => 0
def V6 : List (List Int) := [[-1, -1, -1, -1, -1, 0], [-1, -1, -1, -1, 0, 1], [-1, -1, -1, 0, -1, -1], [-1, -1, -1, 0, 0, 0], [-1, -1, -1, 0, 1, 1], [-1, -1, -1, 1, 0, -1], [-1, -1, -1, 1, 1, 0], [-1, -1, 0, -1, 0, 0], [-1, -1, 0, -1, 1, 1], [-1, -1, 0, 0, 0, 0], [-1, -1, 0, 0, 1, 1], [-1, -1, 0, 1, 0, 0], [-1, -1, 0, 1, 1, 1], [-1, -1, 1, 0, 1, 1], [-1, 0, -1, 0, -1, 0], [-1, 0, -1, 0, 0, 0], [-1, 0, -1, 0, 1, 0], [-1, 0, -1, 1, -1, -1], [-1, 0, -1, 1, 0, -1], [-1, 0, -1, 1, 1, -1], [-1, 0, 0, 0, 0, 0], [-1, 0, 0, 0, 1, 0], [-1, 0, 0, 1, 0, 0], [-1, 0, 0, 1, 1, 0], [-1, 0, 1, 0, 1, 0], [-1, 0, 1, 1, 1, 1], [-1, 1, -1, 1, 0, -1], [-1, 1, 0, 1, 0, 0], [-1, 1, 0, 1, 1, -1], [-1, 1, 1, 1, 1, 0], [0, -1, -1, -1, -1, -1], [0, -1, -1, -1, -1, 0], [0, -1, -1, -1, -1, 1], [0, -1, -1, 0, 0, -1], [0, -1, -1, 0, 0, 0], [0, -1, -1, 0, 0, 1], [0, -1, 0, -1, 0, 0], [0, -1, 0, -1, 0, 1], [0, -1, 0, 0, 0, 0], [0, -1, 0, 0, 0, 1], [0, -1, 1, -1, 1, 1], [0, -1, 1, 0, 0, 1], [0, 0, -1, 0, -1, -1], [0, 0, -1, 0, -1, 0], [0, 0, -1, 0, 0, -1], [0, 0, -1, 0, 0, 0], [0, 0, 0, -1, -1, -1], [0, 0, 0, -1, -1, 0], [0, 0, 0, -1, -1, 1], [0, 0, 0, -1, 0, 0], [0, 0, 0, -1, 0, 1], [0, 0, 0, -1, 1, 1], [0, 0, 0, 0, -1, -1], [0, 0, 0, 0, -1, 0], [0, 0, 0, 0, 0, -1], [0, 0, 0, 0, 0, 0], [0, 0, 0, 0, 0, 1], [0, 0, 0, 0, 1, 0], [0, 0, 0, 0, 1, 1], [0, 0, 0, 1, -1, -1], [0, 0, 0, 1, 0, -1], [0, 0, 0, 1, 0, 0], [0, 0, 0, 1, 1, -1], [0, 0, 0, 1, 1, 0], [0, 0, 0, 1, 1, 1], [0, 0, 1, 0, 0, 0], [0, 0, 1, 0, 0, 1], [0, 0, 1, 0, 1, 0], [0, 0, 1, 0, 1, 1], [0, 1, -1, 0, 0, -1], [0, 1, -1, 1, -1, -1], [0, 1, 0, 0, 0, -1], [0, 1, 0, 0, 0, 0], [0, 1, 0, 1, 0, -1], [0, 1, 0, 1, 0, 0], [0, 1, 1, 0, 0, -1], [0, 1, 1, 0, 0, 0], [0, 1, 1, 0, 0, 1], [0, 1, 1, 1, 1, -1], [0, 1, 1, 1, 1, 0], [0, 1, 1, 1, 1, 1], [1, -1, -1, -1, -1, 0], [1, -1, 0, -1, -1, 1], [1, -1, 0, -1, 0, 0], [1, -1, 1, -1, 0, 1], [1, 0, -1, -1, -1, -1], [1, 0, -1, 0, -1, 0], [1, 0, 0, -1, -1, 0], [1, 0, 0, -1, 0, 0], [1, 0, 0, 0, -1, 0], [1, 0, 0, 0, 0, 0], [1, 0, 1, -1, -1, 1], [1, 0, 1, -1, 0, 1], [1, 0, 1, -1, 1, 1], [1, 0, 1, 0, -1, 0], [1, 0, 1, 0, 0, 0], [1, 0, 1, 0, 1, 0], [1, 1, -1, 0, -1, -1], [1, 1, 0, -1, -1, -1], [1, 1, 0, -1, 0, 0], [1, 1, 0, 0, -1, -1], [1, 1, 0, 0, 0, 0], [1, 1, 0, 1, -1, -1], [1, 1, 0, 1, 0, 0], [1, 1, 1, -1, -1, 0], [1, 1, 1, -1, 0, 1], [1, 1, 1, 0, -1, -1], [1, 1, 1, 0, 0, 0], [1, 1, 1, 0, 1, 1], [1, 1, 1, 1, 0, -1], [1, 1, 1, 1, 1, 0]]
theorem pl_V6 : (B4.all fun a => B4.all fun b => V6.contains (pl a b)) = true := by decide +kernel
theorem lap_V6 : (V6.all fun p => V6.all fun q => decide ((lap p q).natAbs ≤ 3)) = true := by decide +kernel
theorem lap_le {a b c d : List Int} (ha : a ∈ B4) (hb : b ∈ B4) (hc : c ∈ B4) (hd : d ∈ B4) : (lap (pl a b) (pl c d)).natAbs ≤ 3 := by
  have h1 := List.contains_iff_mem.1 (List.all_eq_true.1 (List.all_eq_true.1 pl_V6 a ha) b hb)
  have h2 := List.contains_iff_mem.1 (List.all_eq_true.1 (List.all_eq_true.1 pl_V6 c hc) d hd)
  exact of_decide_eq_true (List.all_eq_true.1 (List.all_eq_true.1 lap_V6 _ h1) _ h2)
def row4 (r : List Int) : List Int := [r.getD 0 0, r.getD 1 0, r.getD 2 0, r.getD 3 0]
theorem get01 {r : List Int} (h : ∀ y ∈ r, y = 0 ∨ y = 1) (i : Nat) : r.getD i 0 = 0 ∨ r.getD i 0 = 1 := by
  rw [List.getD]
  by_cases hi : i < r.length
  · rw [List.getElem?_eq_getElem hi]; exact h _ (List.getElem_mem _)
  · rw [List.getElem?_eq_none (by omega)]; exact .inl rfl
theorem row4_mem {r : List Int} (h : ∀ y ∈ r, y = 0 ∨ y = 1) : row4 r ∈ B4 := by
  rw [row4]
  rcases get01 h 0 with h0 | h0 <;> rcases get01 h 1 with h1 | h1 <;> rcases get01 h 2 with h2 | h2 <;> rcases get01 h 3 with h3 | h3 <;> rw [h0, h1, h2, h3] <;> decide
theorem pdet4 (a b c d : List Int) : pdet 4 [a, b, c, d] = lap (pl (row4 a) (row4 b)) (pl (row4 c) (row4 d)) := by
  simp only [pdet, pdet.isum, List.length_cons, List.length_nil, List.getD_cons_zero, List.getD_cons_succ, List.eraseIdx, Nat.zero_add, Nat.reduceAdd, row4, pl, lap]
  simp only [List.getD_cons_zero, List.getD_cons_succ, Nat.reduceMod, if_true, Nat.zero_add, Nat.reduceAdd]
  grind
theorem pdet4_abs {s : List (List Int)} (hl : s.length = 4) (h : ∀ r ∈ s, ∀ y ∈ r, y = 0 ∨ y = 1) : (pdet 4 s).natAbs ≤ 3 := by
  match s, hl with
  | [a, b, c, d], _ =>
    rw [pdet4]
    exact lap_le (row4_mem (h a (by simp))) (row4_mem (h b (by simp))) (row4_mem (h c (by simp))) (row4_mem (h d (by simp)))
theorem pdet_next {n M : Nat} (hM : ∀ s : List (List Int), s.length = n → (∀ r ∈ s, ∀ y ∈ r, y = 0 ∨ y = 1) → (pdet n s).natAbs ≤ M) {s : List (List Int)} (hl : s.length = n + 1) (h : ∀ r ∈ s, ∀ y ∈ r, y = 0 ∨ y = 1) : (pdet (n + 1) s).natAbs ≤ (n + 1) * M := by
  rw [pdet, hl]
  refine isum_abs fun i hi => ?_
  have h1 := hM (s.eraseIdx i) (by rw [List.length_eraseIdx, if_pos (by omega), hl]; rfl) fun r hr => h r (List.mem_of_mem_eraseIdx hr)
  have hy : (s.getD i []).getD n 0 = 0 ∨ (s.getD i []).getD n 0 = 1 := by
    have e2 : s.getD i [] = s[i]'(by omega) := by rw [List.getD, List.getElem?_eq_getElem]; rfl
    rw [e2]; exact get01 (h _ (List.getElem_mem _)) n
  rw [Int.natAbs_mul, Int.natAbs_mul]
  have h3 : (if (i + n) % 2 = 0 then (1 : Int) else -1).natAbs = 1 := by split <;> rfl
  rw [h3, Nat.one_mul]
  rcases hy with h4 | h4 <;> rw [h4]
  · simp
  · simpa using h1
theorem pdet_90 {n : Nat} (h6 : n ≤ 6) {s : List (List Int)} (hl : s.length = n) (h : ∀ r ∈ s, ∀ y ∈ r, y = 0 ∨ y = 1) : (pdet n s).natAbs ≤ 90 := by
  have d4 : ∀ s : List (List Int), s.length = 4 → (∀ r ∈ s, ∀ y ∈ r, y = 0 ∨ y = 1) → (pdet 4 s).natAbs ≤ 3 := fun s h1 h2 => pdet4_abs h1 h2
  have d5 : ∀ s : List (List Int), s.length = 5 → (∀ r ∈ s, ∀ y ∈ r, y = 0 ∨ y = 1) → (pdet 5 s).natAbs ≤ 15 := fun s h1 h2 => pdet_next d4 h1 h2
  have d6 : ∀ s : List (List Int), s.length = 6 → (∀ r ∈ s, ∀ y ∈ r, y = 0 ∨ y = 1) → (pdet 6 s).natAbs ≤ 90 := fun s h1 h2 => pdet_next d5 h1 h2
  have low : ∀ m, m ≤ 3 → fact m ≤ 6 := fun m hm => by
    have : m = 0 ∨ m = 1 ∨ m = 2 ∨ m = 3 := by omega
    rcases this with rfl | rfl | rfl | rfl <;> decide
  by_cases h3 : n ≤ 3
  · exact Nat.le_trans (pdet_abs n s hl h) (Nat.le_trans (low n h3) (by decide))
  · have : n = 4 ∨ n = 5 ∨ n = 6 := by omega
    rcases this with rfl | rfl | rfl
    · exact Nat.le_trans (d4 s hl h) (by decide)
    · exact Nat.le_trans (d5 s hl h) (by decide)
    · exact d6 s hl h
theorem opt_num {n : Nat} {sets : List Nat} {q : Rat} (h6 : n ≤ 6) (hc : ∀ i, i < n → ∃ s ∈ sets, s.testBit i = true) (h : IsOpt n sets q) : q.num.natAbs ≤ 540 ∧ q.den ≤ 90 := by
  obtain ⟨x, hx, hxq⟩ := h.at_
  obtain ⟨B, v, hv, hle⟩ := corner_ex hc hx
  have hq : q = sumTo v n := Rat.le_antisymm (by rw [← hxq]; exact hle) (h.le v hv.ok)
  have hd : pdet n (Wl n sets B) ≠ 0 := (pdet_row hv.len).2 hv.det
  obtain ⟨y, h1, h2, h3⟩ := leaf_some hv.len hd
  have hy : sumTo v n = sumTo y n := sumTo_congr fun i hi => h3 v hv i hi
  have hlen : (Wl n sets B).length = n := by rw [Wl, List.length_map, hv.len]
  have hr01 : ∀ r ∈ Wl n sets B, r.length = n + 1 ∧ ∀ y ∈ r, y = 0 ∨ y = 1 := fun r hr => by
    obtain ⟨k, _, rfl⟩ := List.mem_map.1 hr
    exact ⟨rowI_len n sets k, rowI_01⟩
  have hdb := pdet_90 h6 hlen fun r hr => (hr01 r hr).2
  have hj : ∀ j, j < n → (pdet n ((Wl n sets B).map (putR n j))).natAbs ≤ 90 := fun j hj => pdet_90 h6 (by rw [List.length_map, hlen]) fun r hr y hy => by
    obtain ⟨r', hr', rfl⟩ := List.mem_map.1 hr
    rw [putR] at hy
    rcases List.mem_or_eq_of_mem_set hy with h | h
    · exact (hr01 r' hr').2 y h
    · rw [h]; exact get01 (hr01 r' hr').2 n
  have hS : (pdet.isum (fun j => pdet n ((Wl n sets B).map (putR n j))) n).natAbs ≤ n * 90 := isum_abs hj
  obtain ⟨S, hSd⟩ : ∃ S, S = pdet.isum (fun j => pdet n ((Wl n sets B).map (putR n j))) n := ⟨_, rfl⟩
  obtain ⟨d, hdd⟩ : ∃ d, d = pdet n (Wl n sets B) := ⟨_, rfl⟩
  rw [← hSd] at hS
  rw [← hdd] at hd hdb
  have e : q * (d : Rat) = (S : Rat) := by
    rw [hSd, isum_cast, hq, hy, Rat.mul_comm, ← sumTo_mul]
    exact sumTo_congr fun j hj => by rw [h1 j hj, hdd, Rat.mul_comm]
  have e2 := divInt_of_mul hd e
  have e3 := natAbs_divInt_num_le S hd
  rw [e2] at e3
  exact ⟨by omega, by omega⟩
end Bq

namespace Go.Proofs.Tryd.Am
open Go.Am Sr

def Chn (xs : List Int) : Prop := 1 ≤ xs.length ∧ xs.length ≤ 6 ∧ ∀ i, i < xs.length → 1 ≤ xs.getD i 0 ∧ xs.getD i 0 ≤ 255
def chB (xs : List Int) : Bool := decide (1 ≤ xs.length) && decide (xs.length ≤ 6) && (List.range xs.length).all fun i => decide (1 ≤ xs.getD i 0) && decide (xs.getD i 0 ≤ 255)
theorem Va {xs : List Int} : chB xs = true ↔ Chn xs := by
  simp only [chB, Chn, Bool.and_eq_true, decide_eq_true_eq, List.all_eq_true, List.mem_range, and_assoc]
theorem chB_take (xs : List Int) : chB (xs.take 80) = chB xs := by
  by_cases h : xs.length ≤ 80
  · rw [List.take_of_length_le h]
  · have h1 : chB xs = false := by
      rw [← Bool.not_eq_true, Va]; intro hc; have := hc.2.1; omega
    have h2 : chB (xs.take 80) = false := by
      rw [← Bool.not_eq_true, Va]; intro hc; have := hc.2.1; rw [List.length_take] at this; omega
    rw [h1, h2]
theorem chB_same {xs : List Int} (h : chB xs = true) : xs.take 80 = xs := List.take_of_length_le (by have := (Va.1 h).2.1; omega)
theorem chn_gn {xs : List Int} (c : Chn xs) {i : Nat} (hi : i < xs.length) : xs.getD i 0 = ((gn xs i : Nat) : Int) ∧ 1 ≤ gn xs i ∧ gn xs i < 256 := by
  have := c.2.2 i hi
  unfold gn; omega
def setO (xs : List Int) (o : Nat) : Nat := mk (fun i => (gn xs i).testBit o) xs.length
theorem setO_bit {xs : List Int} {o i : Nat} (hi : i < xs.length) : (setO xs o).testBit i = (gn xs i).testBit o := by rw [setO, mk_bit, decide_eq_true hi, Bool.true_and]
theorem setO_lt (xs : List Int) (o : Nat) : setO xs o < 2 ^ xs.length := mk_lt _ _
def bsTo (xs : List Int) : Nat → List Nat
  | 0 => []
  | o + 1 => if setO xs o ≠ 0 ∧ ¬ setO xs o ∈ bsTo xs o then bsTo xs o ++ [setO xs o] else bsTo xs o
theorem mem_bsTo {xs : List Int} {s : Nat} : ∀ {k : Nat}, s ∈ bsTo xs k ↔ s ≠ 0 ∧ ∃ o, o < k ∧ s = setO xs o
  | 0 => by rw [bsTo]; exact ⟨fun h => (by cases h), fun ⟨_, o, h, _⟩ => absurd h (Nat.not_lt_zero o)⟩
  | k + 1 => by
    rw [bsTo]
    have ih := mem_bsTo (xs := xs) (s := s) (k := k)
    split
    · next h =>
      rw [List.mem_append, List.mem_singleton, ih]
      constructor
      · rintro (⟨h1, o, ho, e⟩ | rfl)
        · exact ⟨h1, o, by omega, e⟩
        · exact ⟨h.1, k, by omega, rfl⟩
      · rintro ⟨h1, o, ho, e⟩
        by_cases hk : o = k
        · exact .inr (by rw [e, hk])
        · exact .inl ⟨h1, o, by omega, e⟩
    · next h =>
      rw [ih]
      constructor
      · rintro ⟨h1, o, ho, e⟩; exact ⟨h1, o, by omega, e⟩
      · rintro ⟨h1, o, ho, e⟩
        by_cases hk : o = k
        · refine ih.1 (Classical.byContradiction fun hn => h ⟨?_, ?_⟩)
          · rw [← hk, ← e]; exact h1
          · rw [← hk, ← e, hk]; exact hn
        · exact ⟨h1, o, by omega, e⟩
theorem bsTo_len (xs : List Int) : ∀ k, (bsTo xs k).length ≤ k
  | 0 => Nat.le_refl _
  | k + 1 => by
    rw [bsTo]; have := bsTo_len xs k
    split
    · rw [List.length_append, List.length_singleton]; omega
    · omega
theorem bs_lt {xs : List Int} {k : Nat} : ∀ s ∈ bsTo xs k, s < 2 ^ xs.length := fun s hs => by
  obtain ⟨_, o, _, rfl⟩ := mem_bsTo.1 hs; exact setO_lt xs o
theorem bit_ex {a k : Nat} (h0 : a ≠ 0) (hk : a < 2 ^ k) : ∃ o, o < k ∧ a.testBit o = true := by
  refine Classical.byContradiction fun h => h0 (Nat.eq_of_testBit_eq fun o => ?_)
  rw [Nat.zero_testBit]
  by_cases ho : o < k
  · cases hb : a.testBit o with
    | false => rfl
    | true => exact absurd ⟨o, ho, hb⟩ h
  · exact Nat.testBit_lt_two_pow (Nat.lt_of_lt_of_le hk (Nat.pow_le_pow_right (by decide) (by omega)))
theorem set_in {xs : List Int} {i o : Nat} (hi : i < xs.length) (ho : o < 8) (hb : (gn xs i).testBit o = true) : setO xs o ∈ bsTo xs 8 ∧ (setO xs o).testBit i = true := by
  have h1 : (setO xs o).testBit i = true := by rw [setO_bit hi]; exact hb
  exact ⟨mem_bsTo.2 ⟨fun h => (by rw [h, Nat.zero_testBit] at h1; cases h1), o, ho, rfl⟩, h1⟩
theorem bs_cover {xs : List Int} (c : Chn xs) (i : Nat) (hi : i < xs.length) : ∃ s ∈ bsTo xs 8, s.testBit i = true := by
  obtain ⟨_, h1, h2⟩ := chn_gn c hi
  obtain ⟨o, ho, hb⟩ := bit_ex (a := gn xs i) (k := 8) (by omega) h2
  obtain ⟨h3, h4⟩ := set_in hi ho hb
  exact ⟨_, h3, h4⟩
theorem bs_ne {xs : List Int} (c : Chn xs) : bsTo xs 8 ≠ [] := fun h => by
  obtain ⟨s, hs, _⟩ := bs_cover c 0 (by have := c.1; omega)
  rw [h] at hs; cases hs
/-! ### Optima in general -/
theorem opt_ge1 {n : Nat} {sets : List Nat} {q : Rat} (h0 : 0 < n) (h : Bq.IsOpt n sets q) : 1 ≤ q := by
  have := h.le (fun i => if i = 0 then 1 else 0) ⟨fun i _ => by split <;> decide, fun s _ => by
    have : Bq.dot (Bq.bitQ s) (fun i => if i = 0 then 1 else 0) n = Bq.bitQ s 0 := by
      have h1 := Bq.dot_unit (n := n) (t := 0) (fun i => if i = 0 then 1 else 0) (Bq.bitQ s) h0 fun i _ => rfl
      rw [← h1, Bq.dot, Bq.dot]
      exact Bq.sumTo_congr fun i _ => Rat.mul_comm _ _
    rw [this, Bq.bitQ]; split <;> decide⟩
  have e : Bq.sumTo (fun i => if i = 0 then (1 : Rat) else 0) n = 1 := Bq.sumTo_pick (fun _ => (1 : Rat)) h0
  rwa [e] at this
theorem feas_le1 {n : Nat} {sets : List Nat} {x : Nat → Rat} (hc : ∀ i, i < n → ∃ s ∈ sets, s.testBit i = true) (hx : Bq.PFeas n sets x) {i : Nat} (hi : i < n) : x i ≤ 1 := by
  obtain ⟨s, hs, hb⟩ := hc i hi
  refine Rat.le_trans ?_ (hx.le s hs)
  have h2 := Bq.sumTo_one (g := fun i => Bq.bitQ s i * x i) hi fun j hj => Rat.mul_nonneg (Bq.bitQ_nn _ _) (hx.nn j hj)
  have h3 : Bq.bitQ s i = 1 := by rw [Bq.bitQ, if_pos hb]
  simp only [h3, Rat.one_mul] at h2
  exact h2
theorem opt_len {n : Nat} {sets : List Nat} {q : Rat} (hc : ∀ i, i < n → ∃ s ∈ sets, s.testBit i = true) (h : Bq.IsOpt n sets q) : q ≤ ((n : Nat) : Rat) := by
  obtain ⟨x, hx, rfl⟩ := h.at_
  exact sum_le_nat fun i hi => feas_le1 hc hx hi
theorem bits_le (s : Nat) : ∀ n, Bq.sumTo (fun i => Bq.bitQ s i * 1) n = (((List.range n).countP s.testBit : Nat) : Rat)
  | 0 => rfl
  | n + 1 => by
    rw [Bq.sumTo, bits_le s n, List.range_succ, List.countP_append, Rat.natCast_add]
    congr 1
    rw [Bq.bitQ]
    cases hb : s.testBit n <;> simp [hb]
theorem opt_one {n : Nat} {sets : List Nat} {q : Rat} (h0 : 0 < n) (h : Bq.IsOpt n sets q) : q = 1 ↔ ∃ s ∈ sets, ∀ i, i < n → s.testBit i = true := by
  constructor
  · intro hq
    refine Classical.byContradiction fun hno => ?_
    by_cases h1 : n = 1
    · subst h1
      have h2 := h.le (fun _ => 2) ⟨fun _ _ => by decide, fun s hs => by
        have : s.testBit 0 = false := by
          cases hb : s.testBit 0 with
          | false => rfl
          | true => exact absurd ⟨s, hs, fun i hi => by rw [show i = 0 by omega]; exact hb⟩ hno
        rw [Bq.dot, Bq.sumTo, Bq.sumTo, Bq.bitQ, this]; decide +kernel⟩
      rw [hq, Bq.sumTo, Bq.sumTo] at h2
      exact absurd h2 (by decide +kernel)
    · obtain ⟨N, hN⟩ : ∃ N : Rat, N = ((n - 1 : Nat) : Rat) := ⟨_, rfl⟩
      have hNp : 0 < N := by
        rw [hN]; exact Rat.intCast_pos.2 (show (0 : Int) < ((n - 1 : Nat) : Int) by omega)
      have hN0 : N ≠ 0 := fun hc => by rw [hc] at hNp; exact absurd hNp (by decide)
      have h2 := h.le (fun _ => N⁻¹ * 1) ⟨fun _ _ => by rw [Rat.mul_one]; exact Rat.le_of_lt (Rat.inv_pos.2 hNp), fun s hs => by
        have hcnt : (List.range n).countP s.testBit ≤ n - 1 := by
          have hle := List.countP_le_length (p := s.testBit) (l := List.range n)
          rw [List.length_range] at hle
          by_cases he : (List.range n).countP s.testBit = n
          · have := List.countP_eq_length.1 (he.trans (List.length_range).symm)
            exact absurd ⟨s, hs, fun i hi => this i (List.mem_range.2 hi)⟩ hno
          · omega
        have e : Bq.dot (Bq.bitQ s) (fun _ => N⁻¹ * 1) n = N⁻¹ * (((List.range n).countP s.testBit : Nat) : Rat) := by
          rw [← bits_le, ← Bq.sumTo_mul, Bq.dot]
          exact Bq.sumTo_congr fun i _ => by grind
        rw [e]
        have hc2 : (((List.range n).countP s.testBit : Nat) : Rat) ≤ N := by
          rw [hN]
          exact Rat.intCast_le_intCast.2 (show (((List.range n).countP s.testBit : Nat) : Int) ≤ ((n - 1 : Nat) : Int) by omega)
        have := Rat.mul_le_mul_of_nonneg_left hc2 (Rat.le_of_lt (Rat.inv_pos.2 hNp))
        rwa [Rat.inv_mul_cancel _ hN0] at this⟩
      have e1 : ∀ m, Bq.sumTo (fun _ => (1 : Rat)) m = ((m : Nat) : Rat) := fun m => by
        induction m with
        | zero => rfl
        | succ m ih => rw [Bq.sumTo, ih, Rat.natCast_add]; rfl
      rw [Bq.sumTo_mul, e1, hq] at h2
      have h3 := Rat.mul_le_mul_of_nonneg_left h2 (Rat.le_of_lt hNp)
      rw [← Rat.mul_assoc, Rat.mul_inv_cancel _ hN0, Rat.one_mul, Rat.mul_one, hN] at h3
      have := Rat.intCast_le_intCast.1 (show (((n : Nat) : Int) : Rat) ≤ (((n - 1 : Nat) : Int) : Rat) from h3)
      omega
  · rintro ⟨s, hs, hall⟩
    refine Rat.le_antisymm ?_ (opt_ge1 h0 h)
    obtain ⟨x, hx, rfl⟩ := h.at_
    have := hx.le s hs
    have e : Bq.dot (Bq.bitQ s) x n = Bq.sumTo x n := Bq.sumTo_congr fun i hi => by rw [Bq.bitQ, if_pos (hall i hi), Rat.one_mul]
    rwa [e] at this
/-! ### What Back tells -/
def BQ (xs : List Int) (q : Rat) : Prop := Bq.IsOpt xs.length (bsTo xs 8) q
def cfP (xs : List Int) (i j : Nat) : Bool := (gn xs i &&& gn xs j) != 0
def cfL (xs : List Int) : List Int := iL (mat (cfP xs) xs.length)
theorem cfL_len (xs : List Int) : (cfL xs).length = xs.length := by rw [cfL, iL_len, mat_len]
theorem cfL_gs {xs : List Int} (c : Chn xs) : Gs (cfL xs) := mat_gs c.1 c.2.1 fun i j _ _ => by rw [cfP, cfP, Nat.and_comm]
theorem cf_no {xs : List Int} {i j : Nat} (hi : i < xs.length) (hj : j < xs.length) (h : nq (cfL xs) i j = false) : gn xs i &&& gn xs j = 0 := by
  rw [nq, cfL, gb_mat hi, decide_eq_true hj, Bool.true_and, Bool.or_eq_false_iff] at h
  have hne : (i != j) = true := by rw [bne, h.1]; rfl
  rw [hne, Bool.true_and, cfP] at h
  simpa using h.2
theorem back_code {xs : List Int} (c : Chn xs) {q : Rat} (hq : BQ xs q) : (((codeL (Wc (cfL xs) 1)).length : Int)) * (q.den : Int) ≤ q.num := by
  have g := cfL_gs c
  have hk : wn (cfL xs) 1 ≤ 64 := by rw [wn_one, cfL_len]; have := c.2.1; omega
  have hc := codeL_code g hk
  obtain ⟨h1, h2, _⟩ := code_nat hc
  obtain ⟨l, hl⟩ : ∃ l, l = ((codeL (Wc (cfL xs) 1)).map Int.ofNat).map Int.toNat := ⟨_, rfl⟩
  have hll : l.length = (codeL (Wc (cfL xs) 1)).length := by rw [hl, List.length_map, List.length_map]
  have hcf : ∀ i ∈ l, ∀ j ∈ l, i ≠ j → gn xs i &&& gn xs j = 0 := fun i hi j hj hne => by
    rw [hl] at hi hj
    have a := h2 i hi
    have b := h2 j hj
    rw [wn_one] at a b
    have := code_cf g hc hi hj hne
    rw [cf_one a b] at this
    rw [cfL_len] at a b
    exact cf_no a b this
  rw [← hl] at h1 h2
  have h3 := hq.le (fun i => if l.contains i = true then 1 else 0) ⟨fun i _ => by split <;> decide, fun s hs => by
    obtain ⟨_, o, _, rfl⟩ := mem_bsTo.1 hs
    have e : Bq.dot (Bq.bitQ (setO xs o)) (fun i => if l.contains i = true then 1 else 0) xs.length = Bq.sumTo (fun i => if ((setO xs o).testBit i && l.contains i) = true then (1 : Rat) else 0) xs.length := Bq.sumTo_congr fun i _ => by
      show Bq.bitQ (setO xs o) i * (if l.contains i = true then (1 : Rat) else 0) = _
      rw [Bq.bitQ]
      cases (setO xs o).testBit i <;> cases l.contains i <;> simp
    rw [e, one_place fun i j hi hj a b => Classical.byContradiction fun hne => ?_]
    · split <;> decide
    · rw [Bool.and_eq_true, setO_bit hi] at a
      rw [Bool.and_eq_true, setO_bit hj] at b
      have := hcf i (List.contains_iff_mem.1 a.2) j (List.contains_iff_mem.1 b.2) hne
      have h4 := Nat.testBit_and (gn xs i) (gn xs j) o
      rw [this, Nat.zero_testBit, a.1, b.1] at h4; cases h4⟩
  rw [count_sum, cnt_mem List.nodup_range _ h1 fun w hw => List.mem_range.2 (by have := h2 w hw; rw [wn_one, cfL_len] at this; exact this), hll] at h3
  rw [Rat.le_iff] at h3
  have e1 : ((((codeL (Wc (cfL xs) 1)).length : Nat) : Rat)).num = (((codeL (Wc (cfL xs) 1)).length : Nat) : Int) := rfl
  have e2 : ((((codeL (Wc (cfL xs) 1)).length : Nat) : Rat)).den = 1 := rfl
  rw [e1, e2] at h3
  omega
def allO (xs : List Int) : Nat → Nat
  | 0 => 255
  | i + 1 => allO xs i &&& gn xs i
theorem allO_bit (xs : List Int) (o : Nat) : ∀ k, (allO xs k).testBit o = (decide (o < 8) && (List.range k).all fun i => (gn xs i).testBit o)
  | 0 => by
    rw [allO, show (255 : Nat) = 2 ^ 8 - 1 from rfl, Nat.testBit_two_pow_sub_one]; simp
  | k + 1 => by
    rw [allO, Nat.testBit_and, allO_bit xs o k, List.range_succ, List.all_append, Bool.and_assoc]; simp
theorem allO_lt (xs : List Int) : ∀ k, allO xs k < 256
  | 0 => by rw [allO]; decide
  | k + 1 => by rw [allO]; exact Nat.lt_of_le_of_lt Nat.and_le_left (allO_lt xs k)
theorem back_one {xs : List Int} (c : Chn xs) {q : Rat} (hq : BQ xs q) : q = 1 ↔ allO xs xs.length ≠ 0 := by
  have h0 : 0 < xs.length := c.1
  rw [opt_one h0 hq]
  constructor
  · rintro ⟨s, hs, hall⟩ hz
    obtain ⟨_, o, ho, rfl⟩ := mem_bsTo.1 hs
    have := allO_bit xs o xs.length
    rw [hz, Nat.zero_testBit, decide_eq_true ho, Bool.true_and] at this
    have h2 : (List.range xs.length).all (fun i => (gn xs i).testBit o) = true := List.all_eq_true.2 fun i hi => by
      rw [List.mem_range] at hi
      rw [← setO_bit hi]; exact hall i hi
    rw [h2] at this; cases this
  · intro hne
    obtain ⟨o, ho, hb⟩ := bit_ex (k := 8) hne (allO_lt xs _)
    rw [allO_bit, decide_eq_true ho, Bool.true_and, List.all_eq_true] at hb
    have hb' : ∀ i, i < xs.length → (gn xs i).testBit o = true := fun i hi => hb i (List.mem_range.2 hi)
    exact ⟨setO xs o, (set_in h0 ho (hb' 0 h0)).1, fun i hi => by rw [setO_bit hi]; exact hb' i hi⟩
theorem back_num {xs : List Int} (c : Chn xs) {q : Rat} (hq : BQ xs q) : (q.den : Int) ≤ q.num ∧ q.num ≤ 540 ∧ q.num ≤ (q.den : Int) * xs.length := by
  have h1 := opt_ge1 c.1 hq
  have h2 := opt_len (bs_cover c) hq
  have h3 := (Bq.opt_num c.2.1 (bs_cover c) hq).1
  rw [Rat.le_iff] at h1 h2
  have e1 : (1 : Rat).num = 1 := rfl
  have e2 : (1 : Rat).den = 1 := rfl
  have e3 : (((xs.length : Nat) : Rat)).num = (xs.length : Int) := rfl
  have e4 : (((xs.length : Nat) : Rat)).den = 1 := rfl
  rw [e1, e2] at h1
  rw [e3, e4] at h2
  refine ⟨by omega, by omega, ?_⟩
  rw [Int.mul_comm]; omega
end Go.Proofs.Tryd.Am

namespace Go.Proofs.Tryd.Am
open Go.Am
set_option maxRecDepth 100000
/-! 46: planchet planchetref05.Channel -/
@[reducible] def q46_0 : SCode := .region [⟨some 2, .assign (.const (.bool false)), none⟩]
@[reducible] def q46_1 : SCode := .region [⟨some 5, .move (.tmp 0), none⟩,
    ⟨some 6, .call { callee := .builtin .len, args := #[.tmp 5], argTypes := #[22] }, none⟩,
    ⟨some 7, .move (.const (.int .i64 0)), none⟩]
@[reducible] def q46_2 : SCode := .region [⟨some 8, .binOp .lss 3 (.tmp 7) (.tmp 6) 3, none⟩]
@[reducible] def q46_3 : SCode := .region [⟨some 9, .indexAddr 22 (.tmp 5) (.tmp 7), none⟩,
    ⟨some 10, .load 3 (.tmp 9), none⟩,
    ⟨some 4, .assign (.tmp 10), none⟩]
@[reducible] def q46_4 : SCode := .region [⟨some 11, .move (.tmp 4), none⟩,
    ⟨some 12, .binOp .lss 3 (.tmp 11) (.const (.int .i64 1)) 3, none⟩,
    ⟨some 13, .move (.tmp 12), none⟩,
    ⟨some 14, .move (.tmp 4), some (13, false)⟩,
    ⟨some 15, .binOp .gtr 3 (.tmp 14) (.const (.int .i64 255)) 3, some (13, false)⟩,
    ⟨some 16, .pick (.tmp 13) (.const (.bool true)) (.tmp 15), none⟩]
@[reducible] def q46_5 : SCode := .region [⟨some 2, .assign (.const (.bool false)), none⟩]
@[reducible] def q46_6 : SCode := .region [⟨some 17, .binOp .add 3 (.tmp 7) (.const (.int .i64 1)) 3, none⟩,
    ⟨some 7, .move (.tmp 17), none⟩]
def l46_0 : SCode := (.seq q46_2 (.seq (.cond (.tmp 8) .skip (.exit 0)) (.seq (.block 1 (.seq q46_3 (.seq q46_4 (.cond (.tmp 16) (.seq q46_5 .ret) .skip)))) q46_6)))
@[reducible] def q46_7 : SCode := .region [⟨some 18, .move (.tmp 0), none⟩,
    ⟨some 19, .call { callee := .builtin .len, args := #[.tmp 18], argTypes := #[22] }, none⟩,
    ⟨some 20, .binOp .geq 3 (.tmp 19) (.const (.int .i64 1)) 3, none⟩,
    ⟨some 21, .move (.tmp 20), none⟩,
    ⟨some 22, .move (.tmp 0), some (21, true)⟩,
    ⟨some 23, .call { callee := .builtin .len, args := #[.tmp 22], argTypes := #[22] }, some (21, true)⟩,
    ⟨some 24, .binOp .leq 3 (.tmp 23) (.const (.int .i64 6)) 3, some (21, true)⟩,
    ⟨some 25, .pick (.tmp 21) (.tmp 24) (.const (.bool false)), none⟩,
    ⟨some 2, .assign (.tmp 25), none⟩]
def s46 : SCode := (.seq q46_0 (.seq (.seq q46_1 (.block 0 (.loop l46_0))) (.seq q46_7 .ret)))
theorem s46_strip : Yj (Yl Tryd.f46) = s46 := by kernel_rfl
theorem s46_ok : Yu 26 (Yl Tryd.f46) = true := by kernel_rfl
/-! 93: slices.Max[[]int,int] -/
@[reducible] def q93_0 : SCode := .region [⟨some 2, .assign (.const (.int .i64 0)), none⟩]
@[reducible] def q93_1 : SCode := .region [⟨some 5, .move (.tmp 0), none⟩,
    ⟨some 6, .call { callee := .builtin .len, args := #[.tmp 5], argTypes := #[22] }, none⟩,
    ⟨some 7, .binOp .lss 3 (.tmp 6) (.const (.int .i64 1)) 3, none⟩]
@[reducible] def q93_2 : SCode := .region [⟨some 8, .makeInterface 9 (.const (.string { data := #[115, 108, 105, 99, 101, 115, 46, 77, 97, 120, 58, 32, 101, 109, 112, 116, 121, 32, 108, 105, 115, 116] })), none⟩,
    ⟨none, .panic (.tmp 8), none⟩]
@[reducible] def q93_3 : SCode := .region [⟨some 9, .move (.tmp 0), none⟩,
    ⟨some 10, .indexAddr 22 (.tmp 9) (.const (.int .i64 0)), none⟩,
    ⟨some 11, .load 3 (.tmp 10), none⟩,
    ⟨some 3, .assign (.tmp 11), none⟩]
@[reducible] def q93_4 : SCode := .region [⟨some 4, .assign (.const (.int .i64 1)), none⟩]
@[reducible] def q93_5 : SCode := .region [⟨some 12, .move (.tmp 4), none⟩,
    ⟨some 13, .move (.tmp 0), none⟩,
    ⟨some 14, .call { callee := .builtin .len, args := #[.tmp 13], argTypes := #[22] }, none⟩,
    ⟨some 15, .binOp .lss 3 (.tmp 12) (.tmp 14) 3, none⟩]
@[reducible] def q93_7 : SCode := .region [⟨some 18, .move (.tmp 3), none⟩,
    ⟨some 19, .move (.tmp 0), none⟩,
    ⟨some 20, .move (.tmp 4), none⟩,
    ⟨some 21, .indexAddr 22 (.tmp 19) (.tmp 20), none⟩,
    ⟨some 22, .load 3 (.tmp 21), none⟩,
    ⟨some 23, .call { callee := .builtin .max, args := #[.tmp 18, .tmp 22], argTypes := #[3, 3] }, none⟩,
    ⟨some 3, .assign (.tmp 23), none⟩]
@[reducible] def q93_6 : SCode := .region [⟨some 16, .move (.tmp 4), none⟩,
    ⟨some 17, .binOp .add 3 (.tmp 16) (.const (.int .i64 1)) 3, none⟩,
    ⟨some 4, .assign (.tmp 17), none⟩]
def l93_0 : SCode := (.seq (.seq q93_5 (.cond (.tmp 15) .skip (.exit 0))) (.seq (.block 1 q93_7) q93_6))
@[reducible] def q93_8 : SCode := .region [⟨some 24, .move (.tmp 3), none⟩,
    ⟨some 2, .assign (.tmp 24), none⟩]
def s93 : SCode := (.seq q93_0 (.seq (.seq q93_1 (.cond (.tmp 7) q93_2 .skip)) (.seq q93_3 (.seq (.seq q93_4 (.block 0 (.loop l93_0))) (.seq q93_8 .ret)))))
theorem s93_strip : Yj (Yl Tryd.f93) = s93 := by kernel_rfl
theorem s93_ok : Yu 25 (Yl Tryd.f93) = true := by kernel_rfl
end Go.Proofs.Tryd.Am

namespace Go.Proofs.Tryd.Am
open Go.Am Sr
set_option maxRecDepth 100000
set_option maxHeartbeats 4000000

theorem minT_le {xs : List Int} {z : Int} : ∀ k, 1 ≤ k → (z ≤ minT xs k ↔ ∀ i, i < k → z ≤ xs.getD i 0)
  | 0, h => absurd h (by decide)
  | 1, _ => by
    rw [minT_one]
    exact ⟨fun h i hi => by rw [show i = 0 by omega]; exact h, fun h => h 0 (by decide)⟩
  | k + 2, _ => by
    have ih := minT_le (xs := xs) (z := z) (k + 1) (by omega)
    have e : minT xs (k + 2) = if xs.getD (k + 1) 0 < minT xs (k + 1) then xs.getD (k + 1) 0 else minT xs (k + 1) := rfl
    rw [e]
    constructor
    · intro h i hi
      split at h
      · next hlt =>
        by_cases hik : i = k + 1
        · rw [hik]; exact h
        · exact ih.1 (by omega) i (by omega)
      · next hlt =>
        by_cases hik : i = k + 1
        · rw [hik]; omega
        · exact ih.1 h i (by omega)
    · intro h
      have h1 := ih.2 fun i hi => h i (by omega)
      have h2 := h (k + 1) (by omega)
      split <;> omega
def maxT (xs : List Int) : Nat → Int
  | 0 => 0
  | 1 => xs.getD 0 0
  | k + 2 => if xs.getD (k + 1) 0 > maxT xs (k + 1) then xs.getD (k + 1) 0 else maxT xs (k + 1)
theorem maxT_one (xs : List Int) : maxT xs 1 = xs.getD 0 0 := rfl
theorem maxT_succ {xs : List Int} {k : Nat} (h : 1 ≤ k) : maxT xs (k + 1) = if xs.getD k 0 > maxT xs k then xs.getD k 0 else maxT xs k := by
  obtain ⟨j, rfl⟩ : ∃ j, k = j + 1 := ⟨k - 1, by omega⟩
  rfl
theorem maxT_le {xs : List Int} {z : Int} : ∀ k, 1 ≤ k → (maxT xs k ≤ z ↔ ∀ i, i < k → xs.getD i 0 ≤ z)
  | 0, h => absurd h (by decide)
  | 1, _ => by
    rw [maxT_one]
    exact ⟨fun h i hi => by rw [show i = 0 by omega]; exact h, fun h => h 0 (by decide)⟩
  | k + 2, _ => by
    have ih := maxT_le (xs := xs) (z := z) (k + 1) (by omega)
    have e : maxT xs (k + 2) = if xs.getD (k + 1) 0 > maxT xs (k + 1) then xs.getD (k + 1) 0 else maxT xs (k + 1) := rfl
    rw [e]
    constructor
    · intro h i hi
      split at h
      · next hlt =>
        by_cases hik : i = k + 1
        · rw [hik]; exact h
        · exact ih.1 (by omega) i (by omega)
      · next hlt =>
        by_cases hik : i = k + 1
        · rw [hik]; omega
        · exact ih.1 h i (by omega)
    · intro h
      have h1 := ih.2 fun i hi => h i (by omega)
      have h2 := h (k + 1) (by omega)
      split <;> omega
theorem s93_callW [Tabs Tryd.prog] {args : List Value} {h : Zz} {Q : Value → Zz → Prop} (hsz : args.length ≤ 25) (hk : AWS Tryd.prog 25 s93 (Zy Tryd.prog [.tmp 2] Q) (Zv 0 args) h) : ACall Tryd.prog 93 args h Q :=
  Xr Tryd.func93 rfl (enters_of Tryd.func93 (by kernel_rfl) rfl) rfl rfl (by decide) s93_strip s93_ok hsz hk
theorem max_call [Tabs prog] {h : Zz} {v : Value} {xs : List Int} (hv : IntSl h v xs) (h0 : xs ≠ []) (hl : xs.length < 9223372036854775807) : Vc prog 93 [v] h (Zm (maxT xs xs.length)) := by
  have hpos := List.length_pos_iff.2 h0
  refine s93_callW (by simp) ?_
  simp only [s93]
  refine Zx fun N1 hN1 => ?_
  simp (maxSteps := 2000000) only [s93, ↓Za, ↓Zi, ↓Zn, ↓Zg, ↓Zl, ↓Zw, ↓Zb, ↓Zc, ↓Zh, ↓Zd, ↓Zf, ↓vdn, vup, Zs, Zr, Zo, Zt, Zp, List.map_cons, List.map_nil, cond_true, cond_false, aop, Zk, Zu, Zv, ev, sput, Zj, Yb, Yc, unK, Ze, Ya, Nat.reduceBEq, Nat.reduceAdd, Int.reduceBEq, Int.reduceBNe, Int.reduceLT, Zy, Yf, tup, tyf]
  refine hN1 [(0, v), (2, .int .i64 0)] _ _ ?_ (by simp (maxSteps := 2000000) only [↓Za, ↓Zi, ↓Zn, ↓Zg, ↓Zl, ↓Zw, ↓Zb, ↓Zc, ↓Zh, ↓Zd, ↓Zf, ↓vdn, vup, Zs, Zr, Zo, Zt, Zp, List.map_cons, List.map_nil, cond_true, cond_false, aop, Zk, Zu, Zv, ev, sput, Zj, Yb, Yc, unK, Ze, Ya, Nat.reduceBEq, Nat.reduceAdd, Int.reduceBEq, Int.reduceBNe, Int.reduceLT, Zy, Yf, tup, tyf])
  clear hN1
  try clear N1
  have hlt : ¬ ((xs.length : Int) < 1) := by omega
  refine Yd fun M hM => ?_
  refine Zx fun N2 hN2 => ?_
  simp (maxSteps := 2000000) only [s93, ↓Za, ↓Zi, ↓Zn, ↓Zg, ↓Zl, ↓Zw, ↓Zb, ↓Zc, ↓Zh, ↓Zd, ↓Zf, ↓vdn, vup, Zs, Zr, Zo, Zt, Zp, List.map_cons, List.map_nil, cond_true, cond_false, aop, Zk, Zu, Zv, ev, sput, Zj, Yb, Yc, unK, Ze, Ya, Nat.reduceBEq, Nat.reduceAdd, Int.reduceBEq, Int.reduceBNe, Int.reduceLT, Zy, Yf, tup, tyf, hv.len, hlt]
  refine hN2 [(0, v), (2, .int .i64 0), (7, .bool false)] _ _ ?_ (by simp (maxSteps := 2000000) only [↓Za, ↓Zi, ↓Zn, ↓Zg, ↓Zl, ↓Zw, ↓Zb, ↓Zc, ↓Zh, ↓Zd, ↓Zf, ↓vdn, vup, Zs, Zr, Zo, Zt, Zp, List.map_cons, List.map_nil, cond_true, cond_false, aop, Zk, Zu, Zv, ev, sput, Zj, Yb, Yc, unK, Ze, Ya, Nat.reduceBEq, Nat.reduceAdd, Int.reduceBEq, Int.reduceBNe, Int.reduceLT, Zy, Yf, tup, tyf])
  clear hN2
  try clear N2
  refine Yv rfl ?_
  refine Ye ?_
  simp (maxSteps := 2000000) only [s93, ↓Za, ↓Zi, ↓Zn, ↓Zg, ↓Zl, ↓Zw, ↓Zb, ↓Zc, ↓Zh, ↓Zd, ↓Zf, ↓vdn, vup, Zs, Zr, Zo, Zt, Zp, List.map_cons, List.map_nil, cond_true, cond_false, aop, Zk, Zu, Zv, ev, sput, Zj, Yb, Yc, unK, Ze, Ya, Nat.reduceBEq, Nat.reduceAdd, Int.reduceBEq, Int.reduceBNe, Int.reduceLT, Zy, Yf, tup, tyf]
  refine hM [(0, v), (2, .int .i64 0)] _ _ ?_ (by simp (maxSteps := 2000000) only [↓Za, ↓Zi, ↓Zn, ↓Zg, ↓Zl, ↓Zw, ↓Zb, ↓Zc, ↓Zh, ↓Zd, ↓Zf, ↓vdn, vup, Zs, Zr, Zo, Zt, Zp, List.map_cons, List.map_nil, cond_true, cond_false, aop, Zk, Zu, Zv, ev, sput, Zj, Yb, Yc, unK, Ze, Ya, Nat.reduceBEq, Nat.reduceAdd, Int.reduceBEq, Int.reduceBNe, Int.reduceLT, Zy, Yf, tup, tyf])
  clear hM
  try clear M
  have hi0 : ∀ K : Value → Prop, Xa prog 22 v (.int .i64 0) K = K (Wj v 1 0) := fun K => hv.idx (k := .i64) (i := 0) Xs Xg hpos K
  refine Zx fun N3 hN3 => ?_
  simp (maxSteps := 2000000) only [s93, ↓Za, ↓Zi, ↓Zn, ↓Zg, ↓Zl, ↓Zw, ↓Zb, ↓Zc, ↓Zh, ↓Zd, ↓Zf, ↓vdn, vup, Zs, Zr, Zo, Zt, Zp, List.map_cons, List.map_nil, cond_true, cond_false, aop, Zk, Zu, Zv, ev, sput, Zj, Yb, Yc, unK, Ze, Ya, Nat.reduceBEq, Nat.reduceAdd, Int.reduceBEq, Int.reduceBNe, Int.reduceLT, Zy, Yf, tup, tyf, hi0, hv.load Xj hpos, ← maxT_one]
  refine hN3 [(0, v), (2, .int .i64 0), (3, Zm (maxT xs 1))] _ _ ?_ (by simp (maxSteps := 2000000) only [↓Za, ↓Zi, ↓Zn, ↓Zg, ↓Zl, ↓Zw, ↓Zb, ↓Zc, ↓Zh, ↓Zd, ↓Zf, ↓vdn, vup, Zs, Zr, Zo, Zt, Zp, List.map_cons, List.map_nil, cond_true, cond_false, aop, Zk, Zu, Zv, ev, sput, Zj, Yb, Yc, unK, Ze, Ya, Nat.reduceBEq, Nat.reduceAdd, Int.reduceBEq, Int.reduceBNe, Int.reduceLT, Zy, Yf, tup, tyf])
  clear hN3
  try clear N3
  refine Yd fun Z hZ => ?_
  refine Zx fun N4 hN4 => ?_
  simp (maxSteps := 2000000) only [s93, ↓Za, ↓Zi, ↓Zn, ↓Zg, ↓Zl, ↓Zw, ↓Zb, ↓Zc, ↓Zh, ↓Zd, ↓Zf, ↓vdn, vup, Zs, Zr, Zo, Zt, Zp, List.map_cons, List.map_nil, cond_true, cond_false, aop, Zk, Zu, Zv, ev, sput, Zj, Yb, Yc, unK, Ze, Ya, Nat.reduceBEq, Nat.reduceAdd, Int.reduceBEq, Int.reduceBNe, Int.reduceLT, Zy, Yf, tup, tyf]
  refine hN4 [(0, v), (2, .int .i64 0), (3, Zm (maxT xs 1)), (4, .int .i64 1)] _ _ ?_ (by simp (maxSteps := 2000000) only [↓Za, ↓Zi, ↓Zn, ↓Zg, ↓Zl, ↓Zw, ↓Zb, ↓Zc, ↓Zh, ↓Zd, ↓Zf, ↓vdn, vup, Zs, Zr, Zo, Zt, Zp, List.map_cons, List.map_nil, cond_true, cond_false, aop, Zk, Zu, Zv, ev, sput, Zj, Yb, Yc, unK, Ze, Ya, Nat.reduceBEq, Nat.reduceAdd, Int.reduceBEq, Int.reduceBNe, Int.reduceLT, Zy, Yf, tup, tyf])
  clear hN4
  try clear N4
  refine Yh ?_
  refine Yg fun Q hQ => ?_
  refine Xe (γ := Nat) (fun k => 1 ≤ k ∧ k ≤ xs.length) (fun k => ([(0, v), (2, .int .i64 0), (3, Zm (maxT xs k)), (4, Zm (k : Nat))], h)) (fun k => xs.length - k) 1 ⟨Nat.le_refl _, hpos⟩ (by simp (maxSteps := 2000000) only [↓Za, ↓Zi, ↓Zn, ↓Zg, ↓Zl, ↓Zw, ↓Zb, ↓Zc, ↓Zh, ↓Zd, ↓Zf, ↓vdn, vup, Zs, Zr, Zo, Zt, Zp, List.map_cons, List.map_nil, cond_true, cond_false, aop, Zk, Zu, Zv, ev, sput, Zj, Yb, Yc, unK, Ze, Ya, Nat.reduceBEq, Nat.reduceAdd, Int.reduceBEq, Int.reduceBNe, Int.reduceLT, Zy, Yf, tup, tyf, Int.natCast_one]) rfl ?_
  rintro k ⟨hk1, hk⟩
  refine Yg fun Q2 hQ2 => ?_
  simp only [l93_0]
  by_cases hkin : (k : Int) < xs.length
  · have hk' : k < xs.length := by omega
    refine Yd fun A hA => ?_
    refine Zx fun N5 hN5 => ?_
    simp (maxSteps := 2000000) only [s93, ↓Za, ↓Zi, ↓Zn, ↓Zg, ↓Zl, ↓Zw, ↓Zb, ↓Zc, ↓Zh, ↓Zd, ↓Zf, ↓vdn, vup, Zs, Zr, Zo, Zt, Zp, List.map_cons, List.map_nil, cond_true, cond_false, aop, Zk, Zu, Zv, ev, sput, Zj, Yb, Yc, unK, Ze, Ya, Nat.reduceBEq, Nat.reduceAdd, Int.reduceBEq, Int.reduceBNe, Int.reduceLT, Zy, Yf, tup, tyf, hv.len, hkin]
    refine hN5 [(0, v), (2, .int .i64 0), (3, Zm (maxT xs k)), (4, Zm (k : Nat)), (15, .bool true)] _ _ ?_ (by simp (maxSteps := 2000000) only [↓Za, ↓Zi, ↓Zn, ↓Zg, ↓Zl, ↓Zw, ↓Zb, ↓Zc, ↓Zh, ↓Zd, ↓Zf, ↓vdn, vup, Zs, Zr, Zo, Zt, Zp, List.map_cons, List.map_nil, cond_true, cond_false, aop, Zk, Zu, Zv, ev, sput, Zj, Yb, Yc, unK, Ze, Ya, Nat.reduceBEq, Nat.reduceAdd, Int.reduceBEq, Int.reduceBNe, Int.reduceLT, Zy, Yf, tup, tyf])
    clear hN5
    try clear N5
    refine Xh rfl ?_
    refine Ye ?_
    simp (maxSteps := 2000000) only [s93, ↓Za, ↓Zi, ↓Zn, ↓Zg, ↓Zl, ↓Zw, ↓Zb, ↓Zc, ↓Zh, ↓Zd, ↓Zf, ↓vdn, vup, Zs, Zr, Zo, Zt, Zp, List.map_cons, List.map_nil, cond_true, cond_false, aop, Zk, Zu, Zv, ev, sput, Zj, Yb, Yc, unK, Ze, Ya, Nat.reduceBEq, Nat.reduceAdd, Int.reduceBEq, Int.reduceBNe, Int.reduceLT, Zy, Yf, tup, tyf]
    refine hA [(0, v), (2, .int .i64 0), (3, Zm (maxT xs k)), (4, Zm (k : Nat))] _ _ ?_ (by simp (maxSteps := 2000000) only [↓Za, ↓Zi, ↓Zn, ↓Zg, ↓Zl, ↓Zw, ↓Zb, ↓Zc, ↓Zh, ↓Zd, ↓Zf, ↓vdn, vup, Zs, Zr, Zo, Zt, Zp, List.map_cons, List.map_nil, cond_true, cond_false, aop, Zk, Zu, Zv, ev, sput, Zj, Yb, Yc, unK, Ze, Ya, Nat.reduceBEq, Nat.reduceAdd, Int.reduceBEq, Int.reduceBNe, Int.reduceLT, Zy, Yf, tup, tyf])
    clear hA
    try clear A
    refine Yd fun B hB => ?_
    refine Yh ?_
    refine Ye ?_
    simp (maxSteps := 2000000) only [s93, ↓Za, ↓Zi, ↓Zn, ↓Zg, ↓Zl, ↓Zw, ↓Zb, ↓Zc, ↓Zh, ↓Zd, ↓Zf, ↓vdn, vup, Zs, Zr, Zo, Zt, Zp, List.map_cons, List.map_nil, cond_true, cond_false, aop, Zk, Zu, Zv, ev, sput, Zj, Yb, Yc, unK, Ze, Ya, Nat.reduceBEq, Nat.reduceAdd, Int.reduceBEq, Int.reduceBNe, Int.reduceLT, Zy, Yf, tup, tyf, hv.idx Xs Xg hk', hv.load Xj hk', mmK, if_true, ← maxT_succ hk1]
    refine hB [(0, v), (2, .int .i64 0), (3, Zm (maxT xs (k + 1))), (4, Zm (k : Nat))] _ _ ?_ (by simp (maxSteps := 2000000) only [↓Za, ↓Zi, ↓Zn, ↓Zg, ↓Zl, ↓Zw, ↓Zb, ↓Zc, ↓Zh, ↓Zd, ↓Zf, ↓vdn, vup, Zs, Zr, Zo, Zt, Zp, List.map_cons, List.map_nil, cond_true, cond_false, aop, Zk, Zu, Zv, ev, sput, Zj, Yb, Yc, unK, Ze, Ya, Nat.reduceBEq, Nat.reduceAdd, Int.reduceBEq, Int.reduceBNe, Int.reduceLT, Zy, Yf, tup, tyf])
    clear hB
    try clear B
    refine Ye ?_
    simp (maxSteps := 2000000) only [s93, ↓Za, ↓Zi, ↓Zn, ↓Zg, ↓Zl, ↓Zw, ↓Zb, ↓Zc, ↓Zh, ↓Zd, ↓Zf, ↓vdn, vup, Zs, Zr, Zo, Zt, Zp, List.map_cons, List.map_nil, cond_true, cond_false, aop, Zk, Zu, Zv, ev, sput, Zj, Yb, Yc, unK, Ze, Ya, Nat.reduceBEq, Nat.reduceAdd, Int.reduceBEq, Int.reduceBNe, Int.reduceLT, Zy, Yf, tup, tyf, add1 (show k < 9223372036854775807 by omega)]
    exact hQ2 _ _ _ ⟨k + 1, ⟨by omega, hk'⟩, by omega, by simp (maxSteps := 2000000) only [↓Za, ↓Zi, ↓Zn, ↓Zg, ↓Zl, ↓Zw, ↓Zb, ↓Zc, ↓Zh, ↓Zd, ↓Zf, ↓vdn, vup, Zs, Zr, Zo, Zt, Zp, List.map_cons, List.map_nil, cond_true, cond_false, aop, Zk, Zu, Zv, ev, sput, Zj, Yb, Yc, unK, Ze, Ya, Nat.reduceBEq, Nat.reduceAdd, Int.reduceBEq, Int.reduceBNe, Int.reduceLT, Zy, Yf, tup, tyf], rfl⟩
  obtain rfl : k = xs.length := by omega
  refine Yd fun A hA => ?_
  refine Zx fun N6 hN6 => ?_
  simp (maxSteps := 2000000) only [s93, ↓Za, ↓Zi, ↓Zn, ↓Zg, ↓Zl, ↓Zw, ↓Zb, ↓Zc, ↓Zh, ↓Zd, ↓Zf, ↓vdn, vup, Zs, Zr, Zo, Zt, Zp, List.map_cons, List.map_nil, cond_true, cond_false, aop, Zk, Zu, Zv, ev, sput, Zj, Yb, Yc, unK, Ze, Ya, Nat.reduceBEq, Nat.reduceAdd, Int.reduceBEq, Int.reduceBNe, Int.reduceLT, Zy, Yf, tup, tyf, hv.len, hkin]
  refine hN6 [(0, v), (2, .int .i64 0), (3, Zm (maxT xs xs.length)), (4, Zm xs.length), (15, .bool false)] _ _ ?_ (by simp (maxSteps := 2000000) only [↓Za, ↓Zi, ↓Zn, ↓Zg, ↓Zl, ↓Zw, ↓Zb, ↓Zc, ↓Zh, ↓Zd, ↓Zf, ↓vdn, vup, Zs, Zr, Zo, Zt, Zp, List.map_cons, List.map_nil, cond_true, cond_false, aop, Zk, Zu, Zv, ev, sput, Zj, Yb, Yc, unK, Ze, Ya, Nat.reduceBEq, Nat.reduceAdd, Int.reduceBEq, Int.reduceBNe, Int.reduceLT, Zy, Yf, tup, tyf])
  clear hN6
  try clear N6
  refine Yv rfl ?_
  refine Ye ?_
  simp (maxSteps := 2000000) only [s93, ↓Za, ↓Zi, ↓Zn, ↓Zg, ↓Zl, ↓Zw, ↓Zb, ↓Zc, ↓Zh, ↓Zd, ↓Zf, ↓vdn, vup, Zs, Zr, Zo, Zt, Zp, List.map_cons, List.map_nil, cond_true, cond_false, aop, Zk, Zu, Zv, ev, sput, Zj, Yb, Yc, unK, Ze, Ya, Nat.reduceBEq, Nat.reduceAdd, Int.reduceBEq, Int.reduceBNe, Int.reduceLT, Zy, Yf, tup, tyf]
  refine hQ2 _ _ _ (hQ _ _ _ ?_)
  simp (maxSteps := 2000000) only [s93, ↓Za, ↓Zi, ↓Zn, ↓Zg, ↓Zl, ↓Zw, ↓Zb, ↓Zc, ↓Zh, ↓Zd, ↓Zf, ↓vdn, vup, Zs, Zr, Zo, Zt, Zp, List.map_cons, List.map_nil, cond_true, cond_false, aop, Zk, Zu, Zv, ev, sput, Zj, Yb, Yc, unK, Ze, Ya, Nat.reduceBEq, Nat.reduceAdd, Int.reduceBEq, Int.reduceBNe, Int.reduceLT, Zy, Yf, tup, tyf, if_true]
  refine hZ [(0, v), (2, .int .i64 0), (3, Zm (maxT xs xs.length))] _ _ ?_ (by simp (maxSteps := 2000000) only [↓Za, ↓Zi, ↓Zn, ↓Zg, ↓Zl, ↓Zw, ↓Zb, ↓Zc, ↓Zh, ↓Zd, ↓Zf, ↓vdn, vup, Zs, Zr, Zo, Zt, Zp, List.map_cons, List.map_nil, cond_true, cond_false, aop, Zk, Zu, Zv, ev, sput, Zj, Yb, Yc, unK, Ze, Ya, Nat.reduceBEq, Nat.reduceAdd, Int.reduceBEq, Int.reduceBNe, Int.reduceLT, Zy, Yf, tup, tyf])
  clear hZ
  try clear Z
  refine Ye ?_
  simp (maxSteps := 2000000) only [s93, ↓Za, ↓Zi, ↓Zn, ↓Zg, ↓Zl, ↓Zw, ↓Zb, ↓Zc, ↓Zh, ↓Zd, ↓Zf, ↓vdn, vup, Zs, Zr, Zo, Zt, Zp, List.map_cons, List.map_nil, cond_true, cond_false, aop, Zk, Zu, Zv, ev, sput, Zj, Yb, Yc, unK, Ze, Ya, Nat.reduceBEq, Nat.reduceAdd, Int.reduceBEq, Int.reduceBNe, Int.reduceLT, Zy, Yf, tup, tyf]
theorem s70_callW [Tabs Tryd.prog] {args : List Value} {h : Zz} {Q : Value → Zz → Prop} (hsz : args.length ≤ 21) (hk : AWS Tryd.prog 21 s70 (Zy Tryd.prog [.tmp 2] Q) (Zv 0 args) h) : ACall Tryd.prog 70 args h Q :=
  Xr Tryd.func70 rfl (enters_of Tryd.func70 (by kernel_rfl) rfl) rfl rfl (by decide) s70_strip s70_ok hsz hk
theorem ischan_call [Tabs prog] {h : Zz} {v : Value} {xs : List Int} (hv : IntSl h v xs) (hl : xs.length < 9223372036854775807) : Vc prog 70 [v] h (.bool (chB xs)) := by
  refine s70_callW (by simp) ?_
  simp only [s70]
  refine Zx fun N7 hN7 => ?_
  simp (maxSteps := 2000000) only [s70, ↓Za, ↓Zi, ↓Zn, ↓Zg, ↓Zl, ↓Zw, ↓Zb, ↓Zc, ↓Zh, ↓Zd, ↓Zf, ↓vdn, vup, Zs, Zr, Zo, Zt, Zp, List.map_cons, List.map_nil, cond_true, cond_false, aop, Zk, Zu, Zv, ev, sput, Zj, Yb, Yc, unK, Ze, Ya, Nat.reduceBEq, Nat.reduceAdd, Int.reduceBEq, Int.reduceBNe, Int.reduceLT, Zy, Yf, tup, tyf]
  refine hN7 [(0, v), (2, .bool false)] _ _ ?_ (by simp (maxSteps := 2000000) only [↓Za, ↓Zi, ↓Zn, ↓Zg, ↓Zl, ↓Zw, ↓Zb, ↓Zc, ↓Zh, ↓Zd, ↓Zf, ↓vdn, vup, Zs, Zr, Zo, Zt, Zp, List.map_cons, List.map_nil, cond_true, cond_false, aop, Zk, Zu, Zv, ev, sput, Zj, Yb, Yc, unK, Ze, Ya, Nat.reduceBEq, Nat.reduceAdd, Int.reduceBEq, Int.reduceBNe, Int.reduceLT, Zy, Yf, tup, tyf])
  clear hN7
  try clear N7
  refine Ye ?_
  by_cases h1 : 1 ≤ (xs.length : Int)
  · by_cases h6 : (xs.length : Int) ≤ 6
    · have hne : xs ≠ [] := fun hc => by rw [hc] at h1; simp at h1
      refine aw_cut fun N hN => ?_
      simp (maxSteps := 2000000) only [s70, ↓Za, ↓Zi, ↓Zn, ↓Zg, ↓Zl, ↓Zw, ↓Zb, ↓Zc, ↓Zh, ↓Zd, ↓Zf, ↓vdn, vup, Zs, Zr, Zo, Zt, Zp, List.map_cons, List.map_nil, cond_true, cond_false, aop, Zk, Zu, Zv, ev, sput, Zj, Yb, Yc, unK, Ze, Ya, Nat.reduceBEq, Nat.reduceAdd, Int.reduceBEq, Int.reduceBNe, Int.reduceLT, Zy, Yf, tup, tyf, hv.len, ge_iff_le, h1, h6, Xd, List.nil_append, List.append_nil, List.toList_toArray, List.cons_append]
      refine (min_call hv hne hl).mono ?_
      rintro _ h ⟨rfl, rfl⟩
      have e1 : 1 ≤ minT xs xs.length ↔ ∀ i, i < xs.length → 1 ≤ xs.getD i 0 := minT_le _ (by omega)
      by_cases hm : 1 ≤ minT xs xs.length
      · simp (maxSteps := 2000000) only [s70, ↓Za, ↓Zi, ↓Zn, ↓Zg, ↓Zl, ↓Zw, ↓Zb, ↓Zc, ↓Zh, ↓Zd, ↓Zf, ↓vdn, vup, Zs, Zr, Zo, Zt, Zp, List.map_cons, List.map_nil, cond_true, cond_false, aop, Zk, Zu, Zv, ev, sput, Zj, Yb, Yc, unK, Ze, Ya, Nat.reduceBEq, Nat.reduceAdd, Int.reduceBEq, Int.reduceBNe, Int.reduceLT, Zy, Yf, tup, tyf, hm, Xd, List.nil_append, List.append_nil, List.toList_toArray, List.cons_append]
        refine (max_call hv hne hl).mono ?_
        rintro _ h ⟨rfl, rfl⟩
        have e2 : maxT xs xs.length ≤ 255 ↔ ∀ i, i < xs.length → xs.getD i 0 ≤ 255 := maxT_le _ (by omega)
        have e : decide (maxT xs xs.length ≤ 255) = chB xs := by
          rw [Bool.eq_iff_iff, decide_eq_true_eq, Va, e2]
          exact ⟨fun h => ⟨by omega, by omega, fun i hi => ⟨e1.1 hm i hi, h i hi⟩⟩, fun h i hi => (h.2.2 i hi).2⟩
        simp (maxSteps := 2000000) only [s70, ↓Za, ↓Zi, ↓Zn, ↓Zg, ↓Zl, ↓Zw, ↓Zb, ↓Zc, ↓Zh, ↓Zd, ↓Zf, ↓vdn, vup, Zs, Zr, Zo, Zt, Zp, List.map_cons, List.map_nil, cond_true, cond_false, aop, Zk, Zu, Zv, ev, sput, Zj, Yb, Yc, unK, Ze, Ya, Nat.reduceBEq, Nat.reduceAdd, Int.reduceBEq, Int.reduceBNe, Int.reduceLT, Zy, Yf, tup, tyf, e]
        refine hN _ _ ?_
        simp (maxSteps := 2000000) only [s70, ↓Za, ↓Zi, ↓Zn, ↓Zg, ↓Zl, ↓Zw, ↓Zb, ↓Zc, ↓Zh, ↓Zd, ↓Zf, ↓vdn, vup, Zs, Zr, Zo, Zt, Zp, List.map_cons, List.map_nil, cond_true, cond_false, aop, Zk, Zu, Zv, ev, sput, Zj, Yb, Yc, unK, Ze, Ya, Nat.reduceBEq, Nat.reduceAdd, Int.reduceBEq, Int.reduceBNe, Int.reduceLT, Zy, Yf, tup, tyf]
      · have e : chB xs = false := by
          rw [← Bool.not_eq_true, Va]
          exact fun h => hm (e1.2 fun i hi => (h.2.2 i hi).1)
        simp (maxSteps := 2000000) only [s70, ↓Za, ↓Zi, ↓Zn, ↓Zg, ↓Zl, ↓Zw, ↓Zb, ↓Zc, ↓Zh, ↓Zd, ↓Zf, ↓vdn, vup, Zs, Zr, Zo, Zt, Zp, List.map_cons, List.map_nil, cond_true, cond_false, aop, Zk, Zu, Zv, ev, sput, Zj, Yb, Yc, unK, Ze, Ya, Nat.reduceBEq, Nat.reduceAdd, Int.reduceBEq, Int.reduceBNe, Int.reduceLT, Zy, Yf, tup, tyf, hm]
        refine hN _ _ ?_
        simp (maxSteps := 2000000) only [s70, ↓Za, ↓Zi, ↓Zn, ↓Zg, ↓Zl, ↓Zw, ↓Zb, ↓Zc, ↓Zh, ↓Zd, ↓Zf, ↓vdn, vup, Zs, Zr, Zo, Zt, Zp, List.map_cons, List.map_nil, cond_true, cond_false, aop, Zk, Zu, Zv, ev, sput, Zj, Yb, Yc, unK, Ze, Ya, Nat.reduceBEq, Nat.reduceAdd, Int.reduceBEq, Int.reduceBNe, Int.reduceLT, Zy, Yf, tup, tyf]
        rw [e]
    · have e : chB xs = false := by
        rw [← Bool.not_eq_true, Va]
        exact fun h => h6 (by have := h.2.1; omega)
      simp (maxSteps := 2000000) only [s70, ↓Za, ↓Zi, ↓Zn, ↓Zg, ↓Zl, ↓Zw, ↓Zb, ↓Zc, ↓Zh, ↓Zd, ↓Zf, ↓vdn, vup, Zs, Zr, Zo, Zt, Zp, List.map_cons, List.map_nil, cond_true, cond_false, aop, Zk, Zu, Zv, ev, sput, Zj, Yb, Yc, unK, Ze, Ya, Nat.reduceBEq, Nat.reduceAdd, Int.reduceBEq, Int.reduceBNe, Int.reduceLT, Zy, Yf, tup, tyf, hv.len, ge_iff_le, h1, h6]
      rw [e]
  · have e : chB xs = false := by
      rw [← Bool.not_eq_true, Va]
      exact fun h => h1 (by have := h.1; omega)
    simp (maxSteps := 2000000) only [s70, ↓Za, ↓Zi, ↓Zn, ↓Zg, ↓Zl, ↓Zw, ↓Zb, ↓Zc, ↓Zh, ↓Zd, ↓Zf, ↓vdn, vup, Zs, Zr, Zo, Zt, Zp, List.map_cons, List.map_nil, cond_true, cond_false, aop, Zk, Zu, Zv, ev, sput, Zj, Yb, Yc, unK, Ze, Ya, Nat.reduceBEq, Nat.reduceAdd, Int.reduceBEq, Int.reduceBNe, Int.reduceLT, Zy, Yf, tup, tyf, hv.len, ge_iff_le, h1]
    rw [e]
theorem s46_callW [Tabs Tryd.prog] {args : List Value} {h : Zz} {Q : Value → Zz → Prop} (hsz : args.length ≤ 26) (hk : AWS Tryd.prog 26 s46 (Zy Tryd.prog [.tmp 2] Q) (Zv 0 args) h) : ACall Tryd.prog 46 args h Q :=
  Xr Tryd.func46 rfl (enters_of Tryd.func46 (by kernel_rfl) rfl) rfl rfl (by decide) s46_strip s46_ok hsz hk
theorem rchan_call [Tabs prog] {h : Zz} {v : Value} {xs : List Int} (hv : IntSl h v xs) (hl : xs.length < 9223372036854775808) : Vc prog 46 [v] h (.bool (chB xs)) := by
  refine s46_callW (by simp) ?_
  simp only [s46]
  refine Zx fun N8 hN8 => ?_
  simp (maxSteps := 2000000) only [s46, ↓Za, ↓Zi, ↓Zn, ↓Zg, ↓Zl, ↓Zw, ↓Zb, ↓Zc, ↓Zh, ↓Zd, ↓Zf, ↓vdn, vup, Zs, Zr, Zo, Zt, Zp, List.map_cons, List.map_nil, cond_true, cond_false, aop, Zk, Zu, Zv, ev, sput, Zj, Yb, Yc, unK, Ze, Ya, Nat.reduceBEq, Nat.reduceAdd, Int.reduceBEq, Int.reduceBNe, Int.reduceLT, Zy, Yf, tup, tyf]
  refine hN8 [(0, v), (2, .bool false)] _ _ ?_ (by simp (maxSteps := 2000000) only [↓Za, ↓Zi, ↓Zn, ↓Zg, ↓Zl, ↓Zw, ↓Zb, ↓Zc, ↓Zh, ↓Zd, ↓Zf, ↓vdn, vup, Zs, Zr, Zo, Zt, Zp, List.map_cons, List.map_nil, cond_true, cond_false, aop, Zk, Zu, Zv, ev, sput, Zj, Yb, Yc, unK, Ze, Ya, Nat.reduceBEq, Nat.reduceAdd, Int.reduceBEq, Int.reduceBNe, Int.reduceLT, Zy, Yf, tup, tyf])
  clear hN8
  try clear N8
  refine Yd fun Z hZ => ?_
  refine Zx fun N9 hN9 => ?_
  simp (maxSteps := 2000000) only [s46, ↓Za, ↓Zi, ↓Zn, ↓Zg, ↓Zl, ↓Zw, ↓Zb, ↓Zc, ↓Zh, ↓Zd, ↓Zf, ↓vdn, vup, Zs, Zr, Zo, Zt, Zp, List.map_cons, List.map_nil, cond_true, cond_false, aop, Zk, Zu, Zv, ev, sput, Zj, Yb, Yc, unK, Ze, Ya, Nat.reduceBEq, Nat.reduceAdd, Int.reduceBEq, Int.reduceBNe, Int.reduceLT, Zy, Yf, tup, tyf, hv.len]
  refine hN9 [(0, v), (2, .bool false), (5, v), (6, Zm xs.length), (7, .int .i64 0)] _ _ ?_ (by simp (maxSteps := 2000000) only [↓Za, ↓Zi, ↓Zn, ↓Zg, ↓Zl, ↓Zw, ↓Zb, ↓Zc, ↓Zh, ↓Zd, ↓Zf, ↓vdn, vup, Zs, Zr, Zo, Zt, Zp, List.map_cons, List.map_nil, cond_true, cond_false, aop, Zk, Zu, Zv, ev, sput, Zj, Yb, Yc, unK, Ze, Ya, Nat.reduceBEq, Nat.reduceAdd, Int.reduceBEq, Int.reduceBNe, Int.reduceLT, Zy, Yf, tup, tyf])
  clear hN9
  try clear N9
  refine Yh ?_
  refine Yg fun Q hQ => ?_
  refine Xe (γ := Nat) (fun k => k ≤ xs.length ∧ ∀ i, i < k → 1 ≤ xs.getD i 0 ∧ xs.getD i 0 ≤ 255) (fun k => ([(0, v), (2, .bool false), (5, v), (6, Zm xs.length), (7, Zm (k : Nat))], h)) (fun k => xs.length - k) 0 ⟨Nat.zero_le _, fun i hi => absurd hi (Nat.not_lt_zero i)⟩ (by simp (maxSteps := 2000000) only [↓Za, ↓Zi, ↓Zn, ↓Zg, ↓Zl, ↓Zw, ↓Zb, ↓Zc, ↓Zh, ↓Zd, ↓Zf, ↓vdn, vup, Zs, Zr, Zo, Zt, Zp, List.map_cons, List.map_nil, cond_true, cond_false, aop, Zk, Zu, Zv, ev, sput, Zj, Yb, Yc, unK, Ze, Ya, Nat.reduceBEq, Nat.reduceAdd, Int.reduceBEq, Int.reduceBNe, Int.reduceLT, Zy, Yf, tup, tyf, Int.natCast_zero]) rfl ?_
  rintro k ⟨hk, hall⟩
  refine Yg fun Q2 hQ2 => ?_
  simp only [l46_0]
  by_cases hkin : (k : Int) < xs.length
  · have hk' : k < xs.length := by omega
    have no : ¬ (1 ≤ xs.getD k 0 ∧ xs.getD k 0 ≤ 255) → chB xs = false := fun h => by
      rw [← Bool.not_eq_true, Va]
      exact fun hc => h (hc.2.2 k hk')
    refine Zx fun N10 hN10 => ?_
    simp (maxSteps := 2000000) only [s46, ↓Za, ↓Zi, ↓Zn, ↓Zg, ↓Zl, ↓Zw, ↓Zb, ↓Zc, ↓Zh, ↓Zd, ↓Zf, ↓vdn, vup, Zs, Zr, Zo, Zt, Zp, List.map_cons, List.map_nil, cond_true, cond_false, aop, Zk, Zu, Zv, ev, sput, Zj, Yb, Yc, unK, Ze, Ya, Nat.reduceBEq, Nat.reduceAdd, Int.reduceBEq, Int.reduceBNe, Int.reduceLT, Zy, Yf, tup, tyf, hkin]
    refine hN10 [(0, v), (2, .bool false), (5, v), (6, Zm xs.length), (7, Zm (k : Nat)), (8, .bool true)] _ _ ?_ (by simp (maxSteps := 2000000) only [↓Za, ↓Zi, ↓Zn, ↓Zg, ↓Zl, ↓Zw, ↓Zb, ↓Zc, ↓Zh, ↓Zd, ↓Zf, ↓vdn, vup, Zs, Zr, Zo, Zt, Zp, List.map_cons, List.map_nil, cond_true, cond_false, aop, Zk, Zu, Zv, ev, sput, Zj, Yb, Yc, unK, Ze, Ya, Nat.reduceBEq, Nat.reduceAdd, Int.reduceBEq, Int.reduceBNe, Int.reduceLT, Zy, Yf, tup, tyf])
    clear hN10
    try clear N10
    refine Zx fun N11 hN11 => ?_
    simp (maxSteps := 2000000) only [s46, ↓Za, ↓Zi, ↓Zn, ↓Zg, ↓Zl, ↓Zw, ↓Zb, ↓Zc, ↓Zh, ↓Zd, ↓Zf, ↓vdn, vup, Zs, Zr, Zo, Zt, Zp, List.map_cons, List.map_nil, cond_true, cond_false, aop, Zk, Zu, Zv, ev, sput, Zj, Yb, Yc, unK, Ze, Ya, Nat.reduceBEq, Nat.reduceAdd, Int.reduceBEq, Int.reduceBNe, Int.reduceLT, Zy, Yf, tup, tyf]
    refine hN11 [(0, v), (2, .bool false), (5, v), (6, Zm xs.length), (7, Zm (k : Nat))] _ _ ?_ (by simp (maxSteps := 2000000) only [↓Za, ↓Zi, ↓Zn, ↓Zg, ↓Zl, ↓Zw, ↓Zb, ↓Zc, ↓Zh, ↓Zd, ↓Zf, ↓vdn, vup, Zs, Zr, Zo, Zt, Zp, List.map_cons, List.map_nil, cond_true, cond_false, aop, Zk, Zu, Zv, ev, sput, Zj, Yb, Yc, unK, Ze, Ya, Nat.reduceBEq, Nat.reduceAdd, Int.reduceBEq, Int.reduceBNe, Int.reduceLT, Zy, Yf, tup, tyf])
    clear hN11
    try clear N11
    refine Yd fun B hB => ?_
    refine Yh ?_
    refine Zx fun N12 hN12 => ?_
    simp (maxSteps := 2000000) only [s46, ↓Za, ↓Zi, ↓Zn, ↓Zg, ↓Zl, ↓Zw, ↓Zb, ↓Zc, ↓Zh, ↓Zd, ↓Zf, ↓vdn, vup, Zs, Zr, Zo, Zt, Zp, List.map_cons, List.map_nil, cond_true, cond_false, aop, Zk, Zu, Zv, ev, sput, Zj, Yb, Yc, unK, Ze, Ya, Nat.reduceBEq, Nat.reduceAdd, Int.reduceBEq, Int.reduceBNe, Int.reduceLT, Zy, Yf, tup, tyf, hv.idx Xs Xg hk', hv.load Xj hk']
    refine hN12 [(0, v), (2, .bool false), (4, Zm (xs.getD k 0)), (5, v), (6, Zm xs.length), (7, Zm (k : Nat))] _ _ ?_ (by simp (maxSteps := 2000000) only [↓Za, ↓Zi, ↓Zn, ↓Zg, ↓Zl, ↓Zw, ↓Zb, ↓Zc, ↓Zh, ↓Zd, ↓Zf, ↓vdn, vup, Zs, Zr, Zo, Zt, Zp, List.map_cons, List.map_nil, cond_true, cond_false, aop, Zk, Zu, Zv, ev, sput, Zj, Yb, Yc, unK, Ze, Ya, Nat.reduceBEq, Nat.reduceAdd, Int.reduceBEq, Int.reduceBNe, Int.reduceLT, Zy, Yf, tup, tyf])
    clear hN12
    try clear N12
    refine Ye ?_
    by_cases h1 : xs.getD k 0 < 1
    · simp (maxSteps := 2000000) only [s46, ↓Za, ↓Zi, ↓Zn, ↓Zg, ↓Zl, ↓Zw, ↓Zb, ↓Zc, ↓Zh, ↓Zd, ↓Zf, ↓vdn, vup, Zs, Zr, Zo, Zt, Zp, List.map_cons, List.map_nil, cond_true, cond_false, aop, Zk, Zu, Zv, ev, sput, Zj, Yb, Yc, unK, Ze, Ya, Nat.reduceBEq, Nat.reduceAdd, Int.reduceBEq, Int.reduceBNe, Int.reduceLT, Zy, Yf, tup, tyf, h1]
      refine hQ2 _ _ _ (hQ _ _ _ ?_)
      simp (maxSteps := 2000000) only [s46, ↓Za, ↓Zi, ↓Zn, ↓Zg, ↓Zl, ↓Zw, ↓Zb, ↓Zc, ↓Zh, ↓Zd, ↓Zf, ↓vdn, vup, Zs, Zr, Zo, Zt, Zp, List.map_cons, List.map_nil, cond_true, cond_false, aop, Zk, Zu, Zv, ev, sput, Zj, Yb, Yc, unK, Ze, Ya, Nat.reduceBEq, Nat.reduceAdd, Int.reduceBEq, Int.reduceBNe, Int.reduceLT, Zy, Yf, tup, tyf, no (by omega)]
    · by_cases h2 : 255 < xs.getD k 0
      · simp (maxSteps := 2000000) only [s46, ↓Za, ↓Zi, ↓Zn, ↓Zg, ↓Zl, ↓Zw, ↓Zb, ↓Zc, ↓Zh, ↓Zd, ↓Zf, ↓vdn, vup, Zs, Zr, Zo, Zt, Zp, List.map_cons, List.map_nil, cond_true, cond_false, aop, Zk, Zu, Zv, ev, sput, Zj, Yb, Yc, unK, Ze, Ya, Nat.reduceBEq, Nat.reduceAdd, Int.reduceBEq, Int.reduceBNe, Int.reduceLT, Zy, Yf, tup, tyf, h1, gt_iff_lt, h2]
        refine hQ2 _ _ _ (hQ _ _ _ ?_)
        simp (maxSteps := 2000000) only [s46, ↓Za, ↓Zi, ↓Zn, ↓Zg, ↓Zl, ↓Zw, ↓Zb, ↓Zc, ↓Zh, ↓Zd, ↓Zf, ↓vdn, vup, Zs, Zr, Zo, Zt, Zp, List.map_cons, List.map_nil, cond_true, cond_false, aop, Zk, Zu, Zv, ev, sput, Zj, Yb, Yc, unK, Ze, Ya, Nat.reduceBEq, Nat.reduceAdd, Int.reduceBEq, Int.reduceBNe, Int.reduceLT, Zy, Yf, tup, tyf, no (by omega)]
      · simp (maxSteps := 2000000) only [s46, ↓Za, ↓Zi, ↓Zn, ↓Zg, ↓Zl, ↓Zw, ↓Zb, ↓Zc, ↓Zh, ↓Zd, ↓Zf, ↓vdn, vup, Zs, Zr, Zo, Zt, Zp, List.map_cons, List.map_nil, cond_true, cond_false, aop, Zk, Zu, Zv, ev, sput, Zj, Yb, Yc, unK, Ze, Ya, Nat.reduceBEq, Nat.reduceAdd, Int.reduceBEq, Int.reduceBNe, Int.reduceLT, Zy, Yf, tup, tyf, h1, gt_iff_lt, h2]
        refine hB [(0, v), (2, .bool false), (5, v), (6, Zm xs.length), (7, Zm (k : Nat))] _ _ ?_ (by simp (maxSteps := 2000000) only [↓Za, ↓Zi, ↓Zn, ↓Zg, ↓Zl, ↓Zw, ↓Zb, ↓Zc, ↓Zh, ↓Zd, ↓Zf, ↓vdn, vup, Zs, Zr, Zo, Zt, Zp, List.map_cons, List.map_nil, cond_true, cond_false, aop, Zk, Zu, Zv, ev, sput, Zj, Yb, Yc, unK, Ze, Ya, Nat.reduceBEq, Nat.reduceAdd, Int.reduceBEq, Int.reduceBNe, Int.reduceLT, Zy, Yf, tup, tyf])
        clear hB
        try clear B
        refine Ye ?_
        simp (maxSteps := 2000000) only [s46, ↓Za, ↓Zi, ↓Zn, ↓Zg, ↓Zl, ↓Zw, ↓Zb, ↓Zc, ↓Zh, ↓Zd, ↓Zf, ↓vdn, vup, Zs, Zr, Zo, Zt, Zp, List.map_cons, List.map_nil, cond_true, cond_false, aop, Zk, Zu, Zv, ev, sput, Zj, Yb, Yc, unK, Ze, Ya, Nat.reduceBEq, Nat.reduceAdd, Int.reduceBEq, Int.reduceBNe, Int.reduceLT, Zy, Yf, tup, tyf, add1 (show k < 9223372036854775807 by omega)]
        refine hQ2 _ _ _ ⟨k + 1, ⟨hk', fun i hi => ?_⟩, by omega, by simp (maxSteps := 2000000) only [↓Za, ↓Zi, ↓Zn, ↓Zg, ↓Zl, ↓Zw, ↓Zb, ↓Zc, ↓Zh, ↓Zd, ↓Zf, ↓vdn, vup, Zs, Zr, Zo, Zt, Zp, List.map_cons, List.map_nil, cond_true, cond_false, aop, Zk, Zu, Zv, ev, sput, Zj, Yb, Yc, unK, Ze, Ya, Nat.reduceBEq, Nat.reduceAdd, Int.reduceBEq, Int.reduceBNe, Int.reduceLT, Zy, Yf, tup, tyf], rfl⟩
        by_cases hik : i = k
        · rw [hik]; omega
        · exact hall i (by omega)
  obtain rfl : k = xs.length := by omega
  refine Zx fun N13 hN13 => ?_
  simp (maxSteps := 2000000) only [s46, ↓Za, ↓Zi, ↓Zn, ↓Zg, ↓Zl, ↓Zw, ↓Zb, ↓Zc, ↓Zh, ↓Zd, ↓Zf, ↓vdn, vup, Zs, Zr, Zo, Zt, Zp, List.map_cons, List.map_nil, cond_true, cond_false, aop, Zk, Zu, Zv, ev, sput, Zj, Yb, Yc, unK, Ze, Ya, Nat.reduceBEq, Nat.reduceAdd, Int.reduceBEq, Int.reduceBNe, Int.reduceLT, Zy, Yf, tup, tyf, hkin]
  refine hN13 [(0, v), (2, .bool false), (5, v), (6, Zm xs.length), (7, Zm xs.length), (8, .bool false)] _ _ ?_ (by simp (maxSteps := 2000000) only [↓Za, ↓Zi, ↓Zn, ↓Zg, ↓Zl, ↓Zw, ↓Zb, ↓Zc, ↓Zh, ↓Zd, ↓Zf, ↓vdn, vup, Zs, Zr, Zo, Zt, Zp, List.map_cons, List.map_nil, cond_true, cond_false, aop, Zk, Zu, Zv, ev, sput, Zj, Yb, Yc, unK, Ze, Ya, Nat.reduceBEq, Nat.reduceAdd, Int.reduceBEq, Int.reduceBNe, Int.reduceLT, Zy, Yf, tup, tyf])
  clear hN13
  try clear N13
  refine Zx fun N14 hN14 => ?_
  simp (maxSteps := 2000000) only [s46, ↓Za, ↓Zi, ↓Zn, ↓Zg, ↓Zl, ↓Zw, ↓Zb, ↓Zc, ↓Zh, ↓Zd, ↓Zf, ↓vdn, vup, Zs, Zr, Zo, Zt, Zp, List.map_cons, List.map_nil, cond_true, cond_false, aop, Zk, Zu, Zv, ev, sput, Zj, Yb, Yc, unK, Ze, Ya, Nat.reduceBEq, Nat.reduceAdd, Int.reduceBEq, Int.reduceBNe, Int.reduceLT, Zy, Yf, tup, tyf]
  refine hQ2 _ _ _ (hQ _ _ _ ?_)
  simp (maxSteps := 2000000) only [s46, ↓Za, ↓Zi, ↓Zn, ↓Zg, ↓Zl, ↓Zw, ↓Zb, ↓Zc, ↓Zh, ↓Zd, ↓Zf, ↓vdn, vup, Zs, Zr, Zo, Zt, Zp, List.map_cons, List.map_nil, cond_true, cond_false, aop, Zk, Zu, Zv, ev, sput, Zj, Yb, Yc, unK, Ze, Ya, Nat.reduceBEq, Nat.reduceAdd, Int.reduceBEq, Int.reduceBNe, Int.reduceLT, Zy, Yf, tup, tyf, if_true]
  refine hZ [(0, v), (2, .bool false)] _ _ ?_ (by simp (maxSteps := 2000000) only [↓Za, ↓Zi, ↓Zn, ↓Zg, ↓Zl, ↓Zw, ↓Zb, ↓Zc, ↓Zh, ↓Zd, ↓Zf, ↓vdn, vup, Zs, Zr, Zo, Zt, Zp, List.map_cons, List.map_nil, cond_true, cond_false, aop, Zk, Zu, Zv, ev, sput, Zj, Yb, Yc, unK, Ze, Ya, Nat.reduceBEq, Nat.reduceAdd, Int.reduceBEq, Int.reduceBNe, Int.reduceLT, Zy, Yf, tup, tyf])
  clear hZ
  try clear Z
  have hch : chB xs = (decide (1 ≤ (xs.length : Int)) && decide ((xs.length : Int) ≤ 6)) := by
    rw [Bool.eq_iff_iff, Va, Bool.and_eq_true, decide_eq_true_eq, decide_eq_true_eq]
    exact ⟨fun h => ⟨by have := h.1; omega, by have := h.2.1; omega⟩, fun h => ⟨by omega, by omega, hall⟩⟩
  refine Ye ?_
  by_cases h1 : 1 ≤ (xs.length : Int)
  · simp (maxSteps := 2000000) only [s46, ↓Za, ↓Zi, ↓Zn, ↓Zg, ↓Zl, ↓Zw, ↓Zb, ↓Zc, ↓Zh, ↓Zd, ↓Zf, ↓vdn, vup, Zs, Zr, Zo, Zt, Zp, List.map_cons, List.map_nil, cond_true, cond_false, aop, Zk, Zu, Zv, ev, sput, Zj, Yb, Yc, unK, Ze, Ya, Nat.reduceBEq, Nat.reduceAdd, Int.reduceBEq, Int.reduceBNe, Int.reduceLT, Zy, Yf, tup, tyf, hv.len, ge_iff_le, h1, hch, decide_true, Bool.true_and]
  · simp (maxSteps := 2000000) only [s46, ↓Za, ↓Zi, ↓Zn, ↓Zg, ↓Zl, ↓Zw, ↓Zb, ↓Zc, ↓Zh, ↓Zd, ↓Zf, ↓vdn, vup, Zs, Zr, Zo, Zt, Zp, List.map_cons, List.map_nil, cond_true, cond_false, aop, Zk, Zu, Zv, ev, sput, Zj, Yb, Yc, unK, Ze, Ya, Nat.reduceBEq, Nat.reduceAdd, Int.reduceBEq, Int.reduceBNe, Int.reduceLT, Zy, Yf, tup, tyf, hv.len, ge_iff_le, h1, hch, decide_false, Bool.false_and]
theorem conf1_call [Tabs prog] {h : Zz} {v : Value} {xs : List Int} {b : Nat} (hb : h[b]? = some (.cells [v] 22 false)) (hv : IntSl h v xs) (c : Chn xs) {i j : Nat} (hi : i < xs.length) (hj : j < xs.length) : Vc prog 71 [Zm i, Zm j, .pointer (some ⟨b, 0, none⟩)] h (.bool (cfP xs i j)) := by
  obtain ⟨a1, _, a3⟩ := chn_gn c hi
  obtain ⟨b1, _, b3⟩ := chn_gn c hj
  have hand := bitsV_and (a := gn xs i) (b := gn xs j) (by omega) (by omega)
  refine s71_call (by simp) ?_
  simp only [s71]
  simp (maxSteps := 2000000) only [s71, ↓Za, ↓Zi, ↓Zn, ↓Zg, ↓Zl, ↓Zw, ↓Zb, ↓Zc, ↓Zh, ↓Zd, ↓Zf, ↓vdn, vup, Zs, Zr, Zo, Zt, Zp, List.map_cons, List.map_nil, cond_true, cond_false, aop, Zk, Zu, Zv, ev, sput, Zj, Yb, Yc, unK, Ze, Ya, Nat.reduceBEq, Nat.reduceAdd, Int.reduceBEq, Int.reduceBNe, Int.reduceLT, Zy, Yf, tup, tyf]
  refine Wn [] (by kernel_rfl) (by kernel_rfl) (by kernel_rfl) (by kernel_rfl) ?_
  simp (maxSteps := 2000000) only [s71, ↓Za, ↓Zi, ↓Zn, ↓Zg, ↓Zl, ↓Zw, ↓Zb, ↓Zc, ↓Zh, ↓Zd, ↓Zf, ↓vdn, vup, Zs, Zr, Zo, Zt, Zp, List.map_cons, List.map_nil, cond_true, cond_false, aop, Zk, Zu, Zv, ev, sput, Zj, Yb, Yc, unK, Ze, Ya, Nat.reduceBEq, Nat.reduceAdd, Int.reduceBEq, Int.reduceBNe, Int.reduceLT, Zy, Yf, tup, tyf, load1 hb shp_22, hv.idx Xs Xg hi, hv.idx Xs Xg hj, hv.load Xj hi, hv.load Xj hj, a1, b1, hand, bneZ]
  rfl
theorem s44_callW [Tabs Tryd.prog] {args : List Value} {h : Zz} {Q : Value → Zz → Prop} (hsz : args.length ≤ 11) (hk : AWS Tryd.prog 11 s44 (Zy Tryd.prog [.tmp 2, .tmp 3] Q) (Zv 0 args) h) : ACall Tryd.prog 44 args h Q :=
  Xr Tryd.func44 rfl (enters_of Tryd.func44 (by kernel_rfl) rfl) rfl rfl (by decide) s44_strip s44_ok hsz hk
theorem conf_call [Tabs prog] {h : Zz} {v : Value} {xs : List Int} (hv : IntSl h v xs) (hl : xs.length < 9223372036854775807) :
    ACall prog 44 [v] h fun r h' => Ext (fun _ => False) h h' ∧ if chB xs = true then ∃ w, r = .tuple #[w, .int .i64 0] ∧ IntSl h' w (cfL xs) else r = .tuple #[.slice none 0 0, .int .i64 2] := by
  obtain ⟨H, hH⟩ : ∃ H, H = h ++ [Blk.cells [v] 22 false] := ⟨_, rfl⟩
  have hE : Ext (fun _ => False) h H := by rw [hH]; exact Ext.app _ _ _
  have hb : H[h.length]? = some (.cells [v] 22 false) := by rw [hH]; exact Xn _ _
  have hvH : IntSl H v xs := Wq hv hE
  refine s44_callW (by simp) ?_
  simp only [s44]
  refine Zx fun N15 hN15 => ?_
  simp (maxSteps := 2000000) only [s44, ↓Za, ↓Zi, ↓Zn, ↓Zg, ↓Zl, ↓Zw, ↓Zb, ↓Zc, ↓Zh, ↓Zd, ↓Zf, ↓vdn, vup, Zs, Zr, Zo, Zt, Zp, List.map_cons, List.map_nil, cond_true, cond_false, aop, Zk, Zu, Zv, ev, sput, Zj, Yb, Yc, unK, Ze, Ya, Nat.reduceBEq, Nat.reduceAdd, Int.reduceBEq, Int.reduceBNe, Int.reduceLT, Zy, Yf, tup, tyf, boxV22 hv, Wa, ← hH]
  refine hN15 [(0, v), (1, .pointer (some ⟨h.length, 0, none⟩)), (2, .slice none 0 0), (3, .int .i64 0)] _ _ ?_ (by simp (maxSteps := 2000000) only [↓Za, ↓Zi, ↓Zn, ↓Zg, ↓Zl, ↓Zw, ↓Zb, ↓Zc, ↓Zh, ↓Zd, ↓Zf, ↓vdn, vup, Zs, Zr, Zo, Zt, Zp, List.map_cons, List.map_nil, cond_true, cond_false, aop, Zk, Zu, Zv, ev, sput, Zj, Yb, Yc, unK, Ze, Ya, Nat.reduceBEq, Nat.reduceAdd, Int.reduceBEq, Int.reduceBNe, Int.reduceLT, Zy, Yf, tup, tyf])
  clear hN15
  try clear N15
  refine Yd fun M hM => ?_
  refine Zx fun N16 hN16 => ?_
  simp (maxSteps := 2000000) only [s44, ↓Za, ↓Zi, ↓Zn, ↓Zg, ↓Zl, ↓Zw, ↓Zb, ↓Zc, ↓Zh, ↓Zd, ↓Zf, ↓vdn, vup, Zs, Zr, Zo, Zt, Zp, List.map_cons, List.map_nil, cond_true, cond_false, aop, Zk, Zu, Zv, ev, sput, Zj, Yb, Yc, unK, Ze, Ya, Nat.reduceBEq, Nat.reduceAdd, Int.reduceBEq, Int.reduceBNe, Int.reduceLT, Zy, Yf, tup, tyf, Xd, List.nil_append, List.append_nil, List.toList_toArray, List.cons_append, load1 hb shp_22]
  refine (ischan_call hvH hl).mono ?_
  rintro _ H ⟨rfl, rfl⟩
  cases hc : chB xs with
  | false =>
    simp (maxSteps := 2000000) only [s44, ↓Za, ↓Zi, ↓Zn, ↓Zg, ↓Zl, ↓Zw, ↓Zb, ↓Zc, ↓Zh, ↓Zd, ↓Zf, ↓vdn, vup, Zs, Zr, Zo, Zt, Zp, List.map_cons, List.map_nil, cond_true, cond_false, aop, Zk, Zu, Zv, ev, sput, Zj, Yb, Yc, unK, Ze, Ya, Nat.reduceBEq, Nat.reduceAdd, Int.reduceBEq, Int.reduceBNe, Int.reduceLT, Zy, Yf, tup, tyf, Bool.not_false]
    refine hN16 [(0, v), (1, .pointer (some ⟨h.length, 0, none⟩)), (2, .slice none 0 0), (3, .int .i64 0), (6, .bool true)] _ _ ?_ (by simp (maxSteps := 2000000) only [↓Za, ↓Zi, ↓Zn, ↓Zg, ↓Zl, ↓Zw, ↓Zb, ↓Zc, ↓Zh, ↓Zd, ↓Zf, ↓vdn, vup, Zs, Zr, Zo, Zt, Zp, List.map_cons, List.map_nil, cond_true, cond_false, aop, Zk, Zu, Zv, ev, sput, Zj, Yb, Yc, unK, Ze, Ya, Nat.reduceBEq, Nat.reduceAdd, Int.reduceBEq, Int.reduceBNe, Int.reduceLT, Zy, Yf, tup, tyf])
    clear hN16
    try clear N16
    refine Xh rfl ?_
    refine Ye ?_
    simp (maxSteps := 2000000) only [s44, ↓Za, ↓Zi, ↓Zn, ↓Zg, ↓Zl, ↓Zw, ↓Zb, ↓Zc, ↓Zh, ↓Zd, ↓Zf, ↓vdn, vup, Zs, Zr, Zo, Zt, Zp, List.map_cons, List.map_nil, cond_true, cond_false, aop, Zk, Zu, Zv, ev, sput, Zj, Yb, Yc, unK, Ze, Ya, Nat.reduceBEq, Nat.reduceAdd, Int.reduceBEq, Int.reduceBNe, Int.reduceLT, Zy, Yf, tup, tyf]
    exact ⟨hE, by rw [hc, if_neg (by decide)]; trivial⟩
  | true =>
    have c := Va.1 hc
    simp (maxSteps := 2000000) only [s44, ↓Za, ↓Zi, ↓Zn, ↓Zg, ↓Zl, ↓Zw, ↓Zb, ↓Zc, ↓Zh, ↓Zd, ↓Zf, ↓vdn, vup, Zs, Zr, Zo, Zt, Zp, List.map_cons, List.map_nil, cond_true, cond_false, aop, Zk, Zu, Zv, ev, sput, Zj, Yb, Yc, unK, Ze, Ya, Nat.reduceBEq, Nat.reduceAdd, Int.reduceBEq, Int.reduceBNe, Int.reduceLT, Zy, Yf, tup, tyf, Bool.not_true]
    refine hN16 [(0, v), (1, .pointer (some ⟨h.length, 0, none⟩)), (2, .slice none 0 0), (3, .int .i64 0), (6, .bool false)] _ _ ?_ (by simp (maxSteps := 2000000) only [↓Za, ↓Zi, ↓Zn, ↓Zg, ↓Zl, ↓Zw, ↓Zb, ↓Zc, ↓Zh, ↓Zd, ↓Zf, ↓vdn, vup, Zs, Zr, Zo, Zt, Zp, List.map_cons, List.map_nil, cond_true, cond_false, aop, Zk, Zu, Zv, ev, sput, Zj, Yb, Yc, unK, Ze, Ya, Nat.reduceBEq, Nat.reduceAdd, Int.reduceBEq, Int.reduceBNe, Int.reduceLT, Zy, Yf, tup, tyf])
    clear hN16
    try clear N16
    refine Yv rfl ?_
    refine Ye ?_
    simp (maxSteps := 2000000) only [s44, ↓Za, ↓Zi, ↓Zn, ↓Zg, ↓Zl, ↓Zw, ↓Zb, ↓Zc, ↓Zh, ↓Zd, ↓Zf, ↓vdn, vup, Zs, Zr, Zo, Zt, Zp, List.map_cons, List.map_nil, cond_true, cond_false, aop, Zk, Zu, Zv, ev, sput, Zj, Yb, Yc, unK, Ze, Ya, Nat.reduceBEq, Nat.reduceAdd, Int.reduceBEq, Int.reduceBNe, Int.reduceLT, Zy, Yf, tup, tyf]
    refine hM [(0, v), (1, .pointer (some ⟨h.length, 0, none⟩)), (2, .slice none 0 0), (3, .int .i64 0)] _ _ ?_ (by simp (maxSteps := 2000000) only [↓Za, ↓Zi, ↓Zn, ↓Zg, ↓Zl, ↓Zw, ↓Zb, ↓Zc, ↓Zh, ↓Zd, ↓Zf, ↓vdn, vup, Zs, Zr, Zo, Zt, Zp, List.map_cons, List.map_nil, cond_true, cond_false, aop, Zk, Zu, Zv, ev, sput, Zj, Yb, Yc, unK, Ze, Ya, Nat.reduceBEq, Nat.reduceAdd, Int.reduceBEq, Int.reduceBNe, Int.reduceLT, Zy, Yf, tup, tyf])
    clear hM
    try clear M
    refine Ye ?_
    have hE0 : ∀ {hp : Zz}, Ext (fun _ => False) H hp → ∀ i j : Nat, i < xs.length → j < xs.length → ∀ {K : Value → Zz → Prop}, K (.bool (cfP xs i j)) hp → Xd prog false (.func (.func 71) #[] #[.pointer (some ⟨h.length, 0, none⟩)]) [Zm i, Zm j] hp K := fun {hp} hE1 i j hi hj {K} hk => by
      refine (conf1_call ((hE1.2 _ (Xc hb) id).trans hb) (Wq hvH hE1) c hi hj).mono ?_
      rintro _ _ ⟨rfl, rfl⟩
      exact hk
    simp (maxSteps := 2000000) only [s44, ↓Za, ↓Zi, ↓Zn, ↓Zg, ↓Zl, ↓Zw, ↓Zb, ↓Zc, ↓Zh, ↓Zd, ↓Zf, ↓vdn, vup, Zs, Zr, Zo, Zt, Zp, List.map_cons, List.map_nil, cond_true, cond_false, aop, Zk, Zu, Zv, ev, sput, Zj, Yb, Yc, unK, Ze, Ya, Nat.reduceBEq, Nat.reduceAdd, Int.reduceBEq, Int.reduceBNe, Int.reduceLT, Zy, Yf, tup, tyf, load1 hb shp_22, hvH.len, List.map_toArray, Xd, List.nil_append, List.append_nil, List.toList_toArray, List.cons_append]
    refine (made_call (p := cfP xs) c.2.1 hE0).mono ?_
    rintro r h' ⟨hr, hE1⟩
    exact ⟨hE.trans hE1, by rw [hc, if_pos rfl]; exact ⟨r, rfl, hr⟩⟩
theorem s94_callW [Tabs Tryd.prog] {args : List Value} {h : Zz} {Q : Value → Zz → Prop} (hsz : args.length ≤ 19) (hk : AWS Tryd.prog 19 s94 (Zy Tryd.prog [.tmp 4] Q) (Zv 0 args) h) : ACall Tryd.prog 94 args h Q :=
  Xr Tryd.func94 rfl (enters_of Tryd.func94 (by kernel_rfl) rfl) rfl rfl (by decide) s94_strip s94_ok hsz hk
theorem idx_call [Tabs prog] {h : Zz} {v : Value} {xs : List Int} {z : Int} (hv : IntSl h v xs) (hl : xs.length < 9223372036854775807) : ACall prog 94 [v, Zm z] h fun r h' => h' = h ∧ ∃ i : Int, r = Zm i ∧ decide (0 ≤ i) = xs.contains z := by
  refine s94_callW (by simp) ?_
  simp only [s94]
  refine Zx fun N17 hN17 => ?_
  simp (maxSteps := 2000000) only [s94, ↓Za, ↓Zi, ↓Zn, ↓Zg, ↓Zl, ↓Zw, ↓Zb, ↓Zc, ↓Zh, ↓Zd, ↓Zf, ↓vdn, vup, Zs, Zr, Zo, Zt, Zp, List.map_cons, List.map_nil, cond_true, cond_false, aop, Zk, Zu, Zv, ev, sput, Zj, Yb, Yc, unK, Ze, Ya, Nat.reduceBEq, Nat.reduceAdd, Int.reduceBEq, Int.reduceBNe, Int.reduceLT, Zy, Yf, tup, tyf]
  refine hN17 [(0, v), (1, Zm z), (4, .int .i64 0)] _ _ ?_ (by simp (maxSteps := 2000000) only [↓Za, ↓Zi, ↓Zn, ↓Zg, ↓Zl, ↓Zw, ↓Zb, ↓Zc, ↓Zh, ↓Zd, ↓Zf, ↓vdn, vup, Zs, Zr, Zo, Zt, Zp, List.map_cons, List.map_nil, cond_true, cond_false, aop, Zk, Zu, Zv, ev, sput, Zj, Yb, Yc, unK, Ze, Ya, Nat.reduceBEq, Nat.reduceAdd, Int.reduceBEq, Int.reduceBNe, Int.reduceLT, Zy, Yf, tup, tyf])
  clear hN17
  try clear N17
  refine Yd fun Z hZ => ?_
  refine Zx fun N18 hN18 => ?_
  simp (maxSteps := 2000000) only [s94, ↓Za, ↓Zi, ↓Zn, ↓Zg, ↓Zl, ↓Zw, ↓Zb, ↓Zc, ↓Zh, ↓Zd, ↓Zf, ↓vdn, vup, Zs, Zr, Zo, Zt, Zp, List.map_cons, List.map_nil, cond_true, cond_false, aop, Zk, Zu, Zv, ev, sput, Zj, Yb, Yc, unK, Ze, Ya, Nat.reduceBEq, Nat.reduceAdd, Int.reduceBEq, Int.reduceBNe, Int.reduceLT, Zy, Yf, tup, tyf, hv.len]
  refine hN18 [(0, v), (1, Zm z), (4, .int .i64 0), (6, v), (7, Zm xs.length), (8, .int .i64 0)] _ _ ?_ (by simp (maxSteps := 2000000) only [↓Za, ↓Zi, ↓Zn, ↓Zg, ↓Zl, ↓Zw, ↓Zb, ↓Zc, ↓Zh, ↓Zd, ↓Zf, ↓vdn, vup, Zs, Zr, Zo, Zt, Zp, List.map_cons, List.map_nil, cond_true, cond_false, aop, Zk, Zu, Zv, ev, sput, Zj, Yb, Yc, unK, Ze, Ya, Nat.reduceBEq, Nat.reduceAdd, Int.reduceBEq, Int.reduceBNe, Int.reduceLT, Zy, Yf, tup, tyf])
  clear hN18
  try clear N18
  refine Yh ?_
  refine Yg fun Q hQ => ?_
  refine Xe (γ := Nat) (fun k => k ≤ xs.length ∧ ∀ i, i < k → xs.getD i 0 ≠ z) (fun k => ([(0, v), (1, Zm z), (4, .int .i64 0), (6, v), (7, Zm xs.length), (8, Zm (k : Nat))], h)) (fun k => xs.length - k) 0 ⟨Nat.zero_le _, fun i hi => absurd hi (Nat.not_lt_zero i)⟩ (by simp (maxSteps := 2000000) only [↓Za, ↓Zi, ↓Zn, ↓Zg, ↓Zl, ↓Zw, ↓Zb, ↓Zc, ↓Zh, ↓Zd, ↓Zf, ↓vdn, vup, Zs, Zr, Zo, Zt, Zp, List.map_cons, List.map_nil, cond_true, cond_false, aop, Zk, Zu, Zv, ev, sput, Zj, Yb, Yc, unK, Ze, Ya, Nat.reduceBEq, Nat.reduceAdd, Int.reduceBEq, Int.reduceBNe, Int.reduceLT, Zy, Yf, tup, tyf, Int.natCast_zero]) rfl ?_
  rintro k ⟨hk, hno⟩
  refine Yg fun Q2 hQ2 => ?_
  simp only [l94_0]
  by_cases hkin : (k : Int) < xs.length
  · have hk' : k < xs.length := by omega
    have hmem : xs.getD k 0 ∈ xs := by rw [List.getD, List.getElem?_eq_getElem hk']; exact List.getElem_mem _
    refine Zx fun N19 hN19 => ?_
    simp (maxSteps := 2000000) only [s94, ↓Za, ↓Zi, ↓Zn, ↓Zg, ↓Zl, ↓Zw, ↓Zb, ↓Zc, ↓Zh, ↓Zd, ↓Zf, ↓vdn, vup, Zs, Zr, Zo, Zt, Zp, List.map_cons, List.map_nil, cond_true, cond_false, aop, Zk, Zu, Zv, ev, sput, Zj, Yb, Yc, unK, Ze, Ya, Nat.reduceBEq, Nat.reduceAdd, Int.reduceBEq, Int.reduceBNe, Int.reduceLT, Zy, Yf, tup, tyf, hkin]
    refine hN19 [(0, v), (1, Zm z), (4, .int .i64 0), (6, v), (7, Zm xs.length), (8, Zm (k : Nat)), (9, .bool true)] _ _ ?_ (by simp (maxSteps := 2000000) only [↓Za, ↓Zi, ↓Zn, ↓Zg, ↓Zl, ↓Zw, ↓Zb, ↓Zc, ↓Zh, ↓Zd, ↓Zf, ↓vdn, vup, Zs, Zr, Zo, Zt, Zp, List.map_cons, List.map_nil, cond_true, cond_false, aop, Zk, Zu, Zv, ev, sput, Zj, Yb, Yc, unK, Ze, Ya, Nat.reduceBEq, Nat.reduceAdd, Int.reduceBEq, Int.reduceBNe, Int.reduceLT, Zy, Yf, tup, tyf])
    clear hN19
    try clear N19
    refine Zx fun N20 hN20 => ?_
    simp (maxSteps := 2000000) only [s94, ↓Za, ↓Zi, ↓Zn, ↓Zg, ↓Zl, ↓Zw, ↓Zb, ↓Zc, ↓Zh, ↓Zd, ↓Zf, ↓vdn, vup, Zs, Zr, Zo, Zt, Zp, List.map_cons, List.map_nil, cond_true, cond_false, aop, Zk, Zu, Zv, ev, sput, Zj, Yb, Yc, unK, Ze, Ya, Nat.reduceBEq, Nat.reduceAdd, Int.reduceBEq, Int.reduceBNe, Int.reduceLT, Zy, Yf, tup, tyf]
    refine hN20 [(0, v), (1, Zm z), (4, .int .i64 0), (6, v), (7, Zm xs.length), (8, Zm (k : Nat))] _ _ ?_ (by simp (maxSteps := 2000000) only [↓Za, ↓Zi, ↓Zn, ↓Zg, ↓Zl, ↓Zw, ↓Zb, ↓Zc, ↓Zh, ↓Zd, ↓Zf, ↓vdn, vup, Zs, Zr, Zo, Zt, Zp, List.map_cons, List.map_nil, cond_true, cond_false, aop, Zk, Zu, Zv, ev, sput, Zj, Yb, Yc, unK, Ze, Ya, Nat.reduceBEq, Nat.reduceAdd, Int.reduceBEq, Int.reduceBNe, Int.reduceLT, Zy, Yf, tup, tyf])
    clear hN20
    try clear N20
    refine Yd fun B hB => ?_
    refine Yh ?_
    refine Zx fun N21 hN21 => ?_
    simp (maxSteps := 2000000) only [s94, ↓Za, ↓Zi, ↓Zn, ↓Zg, ↓Zl, ↓Zw, ↓Zb, ↓Zc, ↓Zh, ↓Zd, ↓Zf, ↓vdn, vup, Zs, Zr, Zo, Zt, Zp, List.map_cons, List.map_nil, cond_true, cond_false, aop, Zk, Zu, Zv, ev, sput, Zj, Yb, Yc, unK, Ze, Ya, Nat.reduceBEq, Nat.reduceAdd, Int.reduceBEq, Int.reduceBNe, Int.reduceLT, Zy, Yf, tup, tyf]
    refine hN21 [(0, v), (1, Zm z), (4, .int .i64 0), (5, Zm (k : Nat)), (6, v), (7, Zm xs.length), (8, Zm (k : Nat))] _ _ ?_ (by simp (maxSteps := 2000000) only [↓Za, ↓Zi, ↓Zn, ↓Zg, ↓Zl, ↓Zw, ↓Zb, ↓Zc, ↓Zh, ↓Zd, ↓Zf, ↓vdn, vup, Zs, Zr, Zo, Zt, Zp, List.map_cons, List.map_nil, cond_true, cond_false, aop, Zk, Zu, Zv, ev, sput, Zj, Yb, Yc, unK, Ze, Ya, Nat.reduceBEq, Nat.reduceAdd, Int.reduceBEq, Int.reduceBNe, Int.reduceLT, Zy, Yf, tup, tyf])
    clear hN21
    try clear N21
    refine Ye ?_
    by_cases he : z = xs.getD k 0
    · have hb : (z == xs.getD k 0) = true := by rw [beq_iff_eq]; exact he
      simp (maxSteps := 2000000) only [s94, ↓Za, ↓Zi, ↓Zn, ↓Zg, ↓Zl, ↓Zw, ↓Zb, ↓Zc, ↓Zh, ↓Zd, ↓Zf, ↓vdn, vup, Zs, Zr, Zo, Zt, Zp, List.map_cons, List.map_nil, cond_true, cond_false, aop, Zk, Zu, Zv, ev, sput, Zj, Yb, Yc, unK, Ze, Ya, Nat.reduceBEq, Nat.reduceAdd, Int.reduceBEq, Int.reduceBNe, Int.reduceLT, Zy, Yf, tup, tyf, hv.idx Xs Xg hk', hv.load Xj hk', hb]
      refine hQ2 _ _ _ (hQ _ _ _ ?_)
      simp (maxSteps := 2000000) only [s94, ↓Za, ↓Zi, ↓Zn, ↓Zg, ↓Zl, ↓Zw, ↓Zb, ↓Zc, ↓Zh, ↓Zd, ↓Zf, ↓vdn, vup, Zs, Zr, Zo, Zt, Zp, List.map_cons, List.map_nil, cond_true, cond_false, aop, Zk, Zu, Zv, ev, sput, Zj, Yb, Yc, unK, Ze, Ya, Nat.reduceBEq, Nat.reduceAdd, Int.reduceBEq, Int.reduceBNe, Int.reduceLT, Zy, Yf, tup, tyf]
      exact ⟨(k : Int), rfl, by rw [List.contains_iff_mem.2 (he ▸ hmem)]; simp⟩
    · have hb : (z == xs.getD k 0) = false := by rw [beq_eq_false_iff_ne]; exact he
      simp (maxSteps := 2000000) only [s94, ↓Za, ↓Zi, ↓Zn, ↓Zg, ↓Zl, ↓Zw, ↓Zb, ↓Zc, ↓Zh, ↓Zd, ↓Zf, ↓vdn, vup, Zs, Zr, Zo, Zt, Zp, List.map_cons, List.map_nil, cond_true, cond_false, aop, Zk, Zu, Zv, ev, sput, Zj, Yb, Yc, unK, Ze, Ya, Nat.reduceBEq, Nat.reduceAdd, Int.reduceBEq, Int.reduceBNe, Int.reduceLT, Zy, Yf, tup, tyf, hv.idx Xs Xg hk', hv.load Xj hk', hb]
      refine hB [(0, v), (1, Zm z), (4, .int .i64 0), (6, v), (7, Zm xs.length), (8, Zm (k : Nat))] _ _ ?_ (by simp (maxSteps := 2000000) only [↓Za, ↓Zi, ↓Zn, ↓Zg, ↓Zl, ↓Zw, ↓Zb, ↓Zc, ↓Zh, ↓Zd, ↓Zf, ↓vdn, vup, Zs, Zr, Zo, Zt, Zp, List.map_cons, List.map_nil, cond_true, cond_false, aop, Zk, Zu, Zv, ev, sput, Zj, Yb, Yc, unK, Ze, Ya, Nat.reduceBEq, Nat.reduceAdd, Int.reduceBEq, Int.reduceBNe, Int.reduceLT, Zy, Yf, tup, tyf])
      clear hB
      try clear B
      refine Ye ?_
      simp (maxSteps := 2000000) only [s94, ↓Za, ↓Zi, ↓Zn, ↓Zg, ↓Zl, ↓Zw, ↓Zb, ↓Zc, ↓Zh, ↓Zd, ↓Zf, ↓vdn, vup, Zs, Zr, Zo, Zt, Zp, List.map_cons, List.map_nil, cond_true, cond_false, aop, Zk, Zu, Zv, ev, sput, Zj, Yb, Yc, unK, Ze, Ya, Nat.reduceBEq, Nat.reduceAdd, Int.reduceBEq, Int.reduceBNe, Int.reduceLT, Zy, Yf, tup, tyf, add1 (show k < 9223372036854775807 by omega)]
      refine hQ2 _ _ _ ⟨k + 1, ⟨hk', fun i hi => ?_⟩, by omega, by simp (maxSteps := 2000000) only [↓Za, ↓Zi, ↓Zn, ↓Zg, ↓Zl, ↓Zw, ↓Zb, ↓Zc, ↓Zh, ↓Zd, ↓Zf, ↓vdn, vup, Zs, Zr, Zo, Zt, Zp, List.map_cons, List.map_nil, cond_true, cond_false, aop, Zk, Zu, Zv, ev, sput, Zj, Yb, Yc, unK, Ze, Ya, Nat.reduceBEq, Nat.reduceAdd, Int.reduceBEq, Int.reduceBNe, Int.reduceLT, Zy, Yf, tup, tyf], rfl⟩
      by_cases hik : i = k
      · rw [hik]; exact fun h => he h.symm
      · exact hno i (by omega)
  obtain rfl : k = xs.length := by omega
  refine Zx fun N22 hN22 => ?_
  simp (maxSteps := 2000000) only [s94, ↓Za, ↓Zi, ↓Zn, ↓Zg, ↓Zl, ↓Zw, ↓Zb, ↓Zc, ↓Zh, ↓Zd, ↓Zf, ↓vdn, vup, Zs, Zr, Zo, Zt, Zp, List.map_cons, List.map_nil, cond_true, cond_false, aop, Zk, Zu, Zv, ev, sput, Zj, Yb, Yc, unK, Ze, Ya, Nat.reduceBEq, Nat.reduceAdd, Int.reduceBEq, Int.reduceBNe, Int.reduceLT, Zy, Yf, tup, tyf, hkin]
  refine hN22 [(0, v), (1, Zm z), (4, .int .i64 0), (6, v), (7, Zm xs.length), (8, Zm xs.length), (9, .bool false)] _ _ ?_ (by simp (maxSteps := 2000000) only [↓Za, ↓Zi, ↓Zn, ↓Zg, ↓Zl, ↓Zw, ↓Zb, ↓Zc, ↓Zh, ↓Zd, ↓Zf, ↓vdn, vup, Zs, Zr, Zo, Zt, Zp, List.map_cons, List.map_nil, cond_true, cond_false, aop, Zk, Zu, Zv, ev, sput, Zj, Yb, Yc, unK, Ze, Ya, Nat.reduceBEq, Nat.reduceAdd, Int.reduceBEq, Int.reduceBNe, Int.reduceLT, Zy, Yf, tup, tyf])
  clear hN22
  try clear N22
  refine Zx fun N23 hN23 => ?_
  simp (maxSteps := 2000000) only [s94, ↓Za, ↓Zi, ↓Zn, ↓Zg, ↓Zl, ↓Zw, ↓Zb, ↓Zc, ↓Zh, ↓Zd, ↓Zf, ↓vdn, vup, Zs, Zr, Zo, Zt, Zp, List.map_cons, List.map_nil, cond_true, cond_false, aop, Zk, Zu, Zv, ev, sput, Zj, Yb, Yc, unK, Ze, Ya, Nat.reduceBEq, Nat.reduceAdd, Int.reduceBEq, Int.reduceBNe, Int.reduceLT, Zy, Yf, tup, tyf]
  refine hQ2 _ _ _ (hQ _ _ _ ?_)
  simp (maxSteps := 2000000) only [s94, ↓Za, ↓Zi, ↓Zn, ↓Zg, ↓Zl, ↓Zw, ↓Zb, ↓Zc, ↓Zh, ↓Zd, ↓Zf, ↓vdn, vup, Zs, Zr, Zo, Zt, Zp, List.map_cons, List.map_nil, cond_true, cond_false, aop, Zk, Zu, Zv, ev, sput, Zj, Yb, Yc, unK, Ze, Ya, Nat.reduceBEq, Nat.reduceAdd, Int.reduceBEq, Int.reduceBNe, Int.reduceLT, Zy, Yf, tup, tyf, if_true]
  refine hZ [(0, v), (1, Zm z), (4, .int .i64 0)] _ _ ?_ (by simp (maxSteps := 2000000) only [↓Za, ↓Zi, ↓Zn, ↓Zg, ↓Zl, ↓Zw, ↓Zb, ↓Zc, ↓Zh, ↓Zd, ↓Zf, ↓vdn, vup, Zs, Zr, Zo, Zt, Zp, List.map_cons, List.map_nil, cond_true, cond_false, aop, Zk, Zu, Zv, ev, sput, Zj, Yb, Yc, unK, Ze, Ya, Nat.reduceBEq, Nat.reduceAdd, Int.reduceBEq, Int.reduceBNe, Int.reduceLT, Zy, Yf, tup, tyf])
  clear hZ
  try clear Z
  refine Ye ?_
  simp (maxSteps := 2000000) only [s94, ↓Za, ↓Zi, ↓Zn, ↓Zg, ↓Zl, ↓Zw, ↓Zb, ↓Zc, ↓Zh, ↓Zd, ↓Zf, ↓vdn, vup, Zs, Zr, Zo, Zt, Zp, List.map_cons, List.map_nil, cond_true, cond_false, aop, Zk, Zu, Zv, ev, sput, Zj, Yb, Yc, unK, Ze, Ya, Nat.reduceBEq, Nat.reduceAdd, Int.reduceBEq, Int.reduceBNe, Int.reduceLT, Zy, Yf, tup, tyf]
  refine ⟨-1, rfl, ?_⟩
  have : xs.contains z = false := by
    rw [← Bool.not_eq_true, List.contains_iff_mem]
    intro hm
    obtain ⟨i, hi, e⟩ := List.mem_iff_getElem.1 hm
    refine hno i hi ?_
    rw [List.getD, List.getElem?_eq_getElem hi]; exact e
  rw [this]; rfl
theorem s72_callW [Tabs Tryd.prog] {args : List Value} {h : Zz} {Q : Value → Zz → Prop} (hsz : args.length ≤ 9) (hk : AWS Tryd.prog 9 s72 (Zy Tryd.prog [.tmp 4] Q) (Zv 0 args) h) : ACall Tryd.prog 72 args h Q :=
  Xr Tryd.func72 rfl (enters_of Tryd.func72 (by kernel_rfl) rfl) rfl rfl (by decide) s72_strip s72_ok hsz hk
theorem cont_call [Tabs prog] {h : Zz} {v : Value} {xs : List Int} {z : Int} (hv : IntSl h v xs) (hl : xs.length < 9223372036854775807) : Vc prog 72 [v, Zm z] h (.bool (xs.contains z)) := by
  refine s72_callW (by simp) ?_
  simp only [s72]
  refine Zx fun N24 hN24 => ?_
  simp (maxSteps := 2000000) only [s72, ↓Za, ↓Zi, ↓Zn, ↓Zg, ↓Zl, ↓Zw, ↓Zb, ↓Zc, ↓Zh, ↓Zd, ↓Zf, ↓vdn, vup, Zs, Zr, Zo, Zt, Zp, List.map_cons, List.map_nil, cond_true, cond_false, aop, Zk, Zu, Zv, ev, sput, Zj, Yb, Yc, unK, Ze, Ya, Nat.reduceBEq, Nat.reduceAdd, Int.reduceBEq, Int.reduceBNe, Int.reduceLT, Zy, Yf, tup, tyf]
  refine hN24 [(0, v), (1, Zm z), (4, .bool false)] _ _ ?_ (by simp (maxSteps := 2000000) only [↓Za, ↓Zi, ↓Zn, ↓Zg, ↓Zl, ↓Zw, ↓Zb, ↓Zc, ↓Zh, ↓Zd, ↓Zf, ↓vdn, vup, Zs, Zr, Zo, Zt, Zp, List.map_cons, List.map_nil, cond_true, cond_false, aop, Zk, Zu, Zv, ev, sput, Zj, Yb, Yc, unK, Ze, Ya, Nat.reduceBEq, Nat.reduceAdd, Int.reduceBEq, Int.reduceBNe, Int.reduceLT, Zy, Yf, tup, tyf])
  clear hN24
  try clear N24
  refine Ye ?_
  refine aw_cut fun N hN => ?_
  simp (maxSteps := 2000000) only [s72, ↓Za, ↓Zi, ↓Zn, ↓Zg, ↓Zl, ↓Zw, ↓Zb, ↓Zc, ↓Zh, ↓Zd, ↓Zf, ↓vdn, vup, Zs, Zr, Zo, Zt, Zp, List.map_cons, List.map_nil, cond_true, cond_false, aop, Zk, Zu, Zv, ev, sput, Zj, Yb, Yc, unK, Ze, Ya, Nat.reduceBEq, Nat.reduceAdd, Int.reduceBEq, Int.reduceBNe, Int.reduceLT, Zy, Yf, tup, tyf, Xd, List.nil_append, List.append_nil, List.toList_toArray, List.cons_append]
  refine (idx_call hv hl).mono ?_
  rintro _ h ⟨rfl, i, rfl, hi⟩
  simp (maxSteps := 2000000) only [s72, ↓Za, ↓Zi, ↓Zn, ↓Zg, ↓Zl, ↓Zw, ↓Zb, ↓Zc, ↓Zh, ↓Zd, ↓Zf, ↓vdn, vup, Zs, Zr, Zo, Zt, Zp, List.map_cons, List.map_nil, cond_true, cond_false, aop, Zk, Zu, Zv, ev, sput, Zj, Yb, Yc, unK, Ze, Ya, Nat.reduceBEq, Nat.reduceAdd, Int.reduceBEq, Int.reduceBNe, Int.reduceLT, Zy, Yf, tup, tyf, ge_iff_le, hi]
  refine hN _ _ ?_
  simp (maxSteps := 2000000) only [s72, ↓Za, ↓Zi, ↓Zn, ↓Zg, ↓Zl, ↓Zw, ↓Zb, ↓Zc, ↓Zh, ↓Zd, ↓Zf, ↓vdn, vup, Zs, Zr, Zo, Zt, Zp, List.map_cons, List.map_nil, cond_true, cond_false, aop, Zk, Zu, Zv, ev, sput, Zj, Yb, Yc, unK, Ze, Ya, Nat.reduceBEq, Nat.reduceAdd, Int.reduceBEq, Int.reduceBNe, Int.reduceLT, Zy, Yf, tup, tyf]
end Go.Proofs.Tryd.Am

namespace Go.Proofs.Tryd.Am
open Go.Am
set_option maxRecDepth 100000
/-! 13: planchet planchetlaw05.SureBack -/
@[reducible] def q13_0 : SCode := .region [⟨some 2, .assign (.const (.bool false)), none⟩]
@[reducible] def q13_1 : SCode := .region [⟨some 13, .move (.tmp 0), none⟩,
    ⟨some 14, .call { callee := .value (.func 18), args := #[.tmp 13], argTypes := #[22] }, none⟩,
    ⟨some 15, .call { callee := .value (.func 45), args := #[.tmp 14], argTypes := #[22] }, none⟩,
    ⟨some 12, .move (.tmp 15), none⟩,
    ⟨some 16, .extract (.tmp 12) 0, none⟩,
    ⟨some 17, .extract (.tmp 12) 1, none⟩,
    ⟨some 3, .alloc 44, none⟩,
    ⟨none, .store 44 (.tmp 3) (.tmp 16), none⟩,
    ⟨some 4, .assign (.tmp 17), none⟩]
@[reducible] def q13_2 : SCode := .region [⟨some 18, .move (.tmp 4), none⟩,
    ⟨some 19, .binOp .neq 23 (.tmp 18) (.const (.int .i64 0)) 23, none⟩,
    ⟨some 20, .move (.tmp 19), none⟩,
    ⟨some 21, .move (.tmp 0), some (20, false)⟩,
    ⟨some 22, .call { callee := .value (.func 46), args := #[.tmp 21], argTypes := #[22] }, some (20, false)⟩,
    ⟨some 23, .unOp .not 4 (.tmp 22), some (20, false)⟩,
    ⟨some 24, .pick (.tmp 20) (.const (.bool true)) (.tmp 23), none⟩]
@[reducible] def q13_3 : SCode := .region [⟨some 25, .move (.tmp 4), none⟩,
    ⟨some 26, .binOp .eql 23 (.tmp 25) (.const (.int .i64 2)) 23, none⟩,
    ⟨some 27, .move (.tmp 26), none⟩,
    ⟨some 28, .call { callee := .value (.func 21), args := #[], argTypes := #[] }, some (27, true)⟩,
    ⟨some 29, .pick (.tmp 27) (.tmp 28) (.const (.bool false)), none⟩,
    ⟨some 2, .assign (.tmp 29), none⟩]
@[reducible] def q13_4 : SCode := .region [⟨some 31, .move (.tmp 0), none⟩,
    ⟨some 32, .call { callee := .value (.func 18), args := #[.tmp 31], argTypes := #[22] }, none⟩,
    ⟨some 33, .call { callee := .value (.func 44), args := #[.tmp 32], argTypes := #[22] }, none⟩,
    ⟨some 30, .move (.tmp 33), none⟩,
    ⟨some 34, .extract (.tmp 30) 0, none⟩,
    ⟨some 35, .extract (.tmp 30) 1, none⟩,
    ⟨some 5, .assign (.tmp 34), none⟩,
    ⟨some 6, .assign (.tmp 35), none⟩]
@[reducible] def q13_5 : SCode := .region [⟨some 37, .move (.tmp 5), none⟩,
    ⟨some 38, .call { callee := .value (.func 19), args := #[.tmp 37, .const (.int .i64 1)], argTypes := #[22, 3] }, none⟩,
    ⟨some 36, .move (.tmp 38), none⟩,
    ⟨some 39, .extract (.tmp 36) 0, none⟩,
    ⟨some 40, .extract (.tmp 36) 1, none⟩,
    ⟨some 7, .assign (.tmp 39), none⟩,
    ⟨some 8, .assign (.tmp 40), none⟩]
@[reducible] def q13_6 : SCode := .region [⟨some 9, .assign (.const (.int .i64 255)), none⟩]
@[reducible] def q13_7 : SCode := .region [⟨some 41, .move (.tmp 0), none⟩,
    ⟨some 42, .call { callee := .builtin .len, args := #[.tmp 41], argTypes := #[22] }, none⟩,
    ⟨some 43, .move (.const (.int .i64 0)), none⟩]
@[reducible] def q13_8 : SCode := .region [⟨some 44, .binOp .lss 3 (.tmp 43) (.tmp 42) 3, none⟩]
@[reducible] def q13_9 : SCode := .region [⟨some 45, .indexAddr 22 (.tmp 41) (.tmp 43), none⟩,
    ⟨some 46, .load 3 (.tmp 45), none⟩,
    ⟨some 11, .assign (.tmp 46), none⟩]
@[reducible] def q13_10 : SCode := .region [⟨some 47, .move (.tmp 9), none⟩,
    ⟨some 48, .move (.tmp 11), none⟩,
    ⟨some 49, .binOp .and 3 (.tmp 47) (.tmp 48) 3, none⟩,
    ⟨some 9, .assign (.tmp 49), none⟩]
@[reducible] def q13_11 : SCode := .region [⟨some 50, .binOp .add 3 (.tmp 43) (.const (.int .i64 1)) 3, none⟩,
    ⟨some 43, .move (.tmp 50), none⟩]
def l13_0 : SCode := (.seq q13_8 (.seq (.cond (.tmp 44) .skip (.exit 0)) (.seq (.block 1 (.seq q13_9 q13_10)) q13_11)))
@[reducible] def q13_12 : SCode := .region [⟨some 51, .move (.tmp 6), none⟩,
    ⟨some 52, .binOp .eql 23 (.tmp 51) (.const (.int .i64 0)) 23, none⟩,
    ⟨some 53, .move (.tmp 52), none⟩,
    ⟨some 54, .move (.tmp 8), some (53, true)⟩,
    ⟨some 55, .binOp .eql 23 (.tmp 54) (.const (.int .i64 0)) 23, some (53, true)⟩,
    ⟨some 56, .pick (.tmp 53) (.tmp 55) (.const (.bool false)), none⟩,
    ⟨some 57, .move (.tmp 56), none⟩,
    ⟨some 58, .fieldAddr 44 (.tmp 3) 1, some (57, true)⟩,
    ⟨some 59, .load 3 (.tmp 58), some (57, true)⟩,
    ⟨some 60, .binOp .geq 3 (.tmp 59) (.const (.int .i64 1)) 3, some (57, true)⟩,
    ⟨some 61, .pick (.tmp 57) (.tmp 60) (.const (.bool false)), none⟩,
    ⟨some 62, .move (.tmp 61), none⟩,
    ⟨some 63, .fieldAddr 44 (.tmp 3) 1, some (62, true)⟩,
    ⟨some 64, .load 3 (.tmp 63), some (62, true)⟩,
    ⟨some 65, .binOp .leq 3 (.tmp 64) (.const (.int .i64 1000)) 3, some (62, true)⟩,
    ⟨some 66, .pick (.tmp 62) (.tmp 65) (.const (.bool false)), none⟩,
    ⟨some 67, .move (.tmp 66), none⟩,
    ⟨some 68, .fieldAddr 44 (.tmp 3) 0, some (67, true)⟩,
    ⟨some 69, .load 3 (.tmp 68), some (67, true)⟩,
    ⟨some 70, .binOp .geq 3 (.tmp 69) (.const (.int .i64 1)) 3, some (67, true)⟩,
    ⟨some 71, .pick (.tmp 67) (.tmp 70) (.const (.bool false)), none⟩,
    ⟨some 72, .move (.tmp 71), none⟩,
    ⟨some 73, .fieldAddr 44 (.tmp 3) 0, some (72, true)⟩,
    ⟨some 74, .load 3 (.tmp 73), some (72, true)⟩,
    ⟨some 75, .fieldAddr 44 (.tmp 3) 1, some (72, true)⟩,
    ⟨some 76, .load 3 (.tmp 75), some (72, true)⟩,
    ⟨some 77, .binOp .leq 3 (.tmp 74) (.tmp 76) 3, some (72, true)⟩,
    ⟨some 78, .pick (.tmp 72) (.tmp 77) (.const (.bool false)), none⟩,
    ⟨some 79, .move (.tmp 78), none⟩,
    ⟨some 80, .fieldAddr 44 (.tmp 3) 0, some (79, true)⟩,
    ⟨some 81, .load 3 (.tmp 80), some (79, true)⟩,
    ⟨some 82, .move (.tmp 0), some (79, true)⟩,
    ⟨some 83, .call { callee := .builtin .len, args := #[.tmp 82], argTypes := #[22] }, some (79, true)⟩,
    ⟨some 84, .binOp .mul 3 (.tmp 81) (.tmp 83) 3, some (79, true)⟩,
    ⟨some 85, .fieldAddr 44 (.tmp 3) 1, some (79, true)⟩,
    ⟨some 86, .load 3 (.tmp 85), some (79, true)⟩,
    ⟨some 87, .binOp .geq 3 (.tmp 84) (.tmp 86) 3, some (79, true)⟩,
    ⟨some 88, .pick (.tmp 79) (.tmp 87) (.const (.bool false)), none⟩,
    ⟨some 89, .move (.tmp 88), none⟩,
    ⟨some 90, .load 44 (.tmp 3), some (89, true)⟩,
    ⟨some 91, .build 44 #[(0, .const (.int .i64 1)), (1, .const (.int .i64 1))], some (89, true)⟩,
    ⟨some 92, .binOp .eql 44 (.tmp 90) (.tmp 91) 44, some (89, true)⟩,
    ⟨some 93, .move (.tmp 9), some (89, true)⟩,
    ⟨some 94, .binOp .neq 3 (.tmp 93) (.const (.int .i64 0)) 3, some (89, true)⟩,
    ⟨some 95, .binOp .eql 4 (.tmp 92) (.tmp 94) 4, some (89, true)⟩,
    ⟨some 96, .pick (.tmp 89) (.tmp 95) (.const (.bool false)), none⟩,
    ⟨some 97, .move (.tmp 96), none⟩,
    ⟨some 98, .move (.tmp 7), some (97, true)⟩,
    ⟨some 99, .call { callee := .builtin .len, args := #[.tmp 98], argTypes := #[22] }, some (97, true)⟩,
    ⟨some 100, .fieldAddr 44 (.tmp 3) 0, some (97, true)⟩,
    ⟨some 101, .load 3 (.tmp 100), some (97, true)⟩,
    ⟨some 102, .binOp .mul 3 (.tmp 99) (.tmp 101) 3, some (97, true)⟩,
    ⟨some 103, .fieldAddr 44 (.tmp 3) 1, some (97, true)⟩,
    ⟨some 104, .load 3 (.tmp 103), some (97, true)⟩,
    ⟨some 105, .binOp .leq 3 (.tmp 102) (.tmp 104) 3, some (97, true)⟩,
    ⟨some 106, .pick (.tmp 97) (.tmp 105) (.const (.bool false)), none⟩,
    ⟨some 107, .move (.tmp 106), none⟩,
    ⟨some 108, .call { callee := .value (.func 21), args := #[], argTypes := #[] }, some (107, true)⟩,
    ⟨some 109, .pick (.tmp 107) (.tmp 108) (.const (.bool false)), none⟩,
    ⟨some 2, .assign (.tmp 109), none⟩]
def s13 : SCode := (.seq q13_0 (.seq q13_1 (.seq (.seq q13_2 (.cond (.tmp 24) (.seq q13_3 .ret) .skip)) (.seq q13_4 (.seq q13_5 (.seq q13_6 (.seq (.seq q13_7 (.block 0 (.loop l13_0))) (.seq q13_12 .ret))))))))
theorem s13_strip : Yj (Yl Tryd.f13) = s13 := by kernel_rfl
theorem s13_ok : Yu 110 (Yl Tryd.f13) = true := by kernel_rfl
end Go.Proofs.Tryd.Am

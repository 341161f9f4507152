/-
  order: law Dims.
-/
import Derived.Test.YtnjacpfahhjpiaaDoorPk9
set_option linter.all false
namespace Go.Proofs.Tryd.Am
open Go.Am Ord
set_option maxRecDepth 100000
set_option maxHeartbeats 4000000

/-! ### Plain -/
theorem shortest_ge {P : List Nat → Bool} {N d : Nat} {q : List Nat} {s : Nat} (h : Xb P N d s = some q) : ∀ s', s ≤ s' → Xb P N d s' = some q
  | 0, hs => by obtain rfl : s = 0 := by omega
                exact h
  | s' + 1, hs => by
    rcases Nat.lt_or_ge s (s' + 1) with h1 | h1
    · exact shortest_up (shortest_ge h s' (by omega))
    · obtain rfl : s = s' + 1 := by omega
      exact h
theorem shortest_ex {P : List Nat → Bool} {N d : Nat} {q : List Nat} : ∀ {s : Nat}, Xb P N d s = some q → ∃ s', 1 ≤ s' ∧ s' ≤ s ∧ srch P N d s' 0 [] = some q
  | 0, h => by rw [Xb] at h; cases h
  | s + 1, h => by
    rw [Xb] at h
    cases h1 : Xb P N d s with
    | some q' =>
      rw [h1] at h; cases h
      obtain ⟨s', h2, h3, h4⟩ := shortest_ex h1
      exact ⟨s', h2, by omega, h4⟩
    | none => rw [h1] at h; exact ⟨s + 1, by omega, Nat.le_refl _, h⟩
theorem realL_of {o : List Int} {s : Nat} {q : List Nat} (h : Xb (sepB o) (cn o) 1 s = some q) (hs : s ≤ 3) : realL o = q ∧ 1 ≤ q.length ∧ q.length ≤ s ∧ (∀ k ∈ q, k < cn o) ∧ sepB o q = true := by
  obtain ⟨s', h1, h2, h3⟩ := shortest_ex h
  obtain ⟨h4, h5, h6⟩ := real_q h3
  exact ⟨by rw [realL, shortest_ge h 3 hs]; rfl, by omega, by omega, fun k hk => (h5.lt k hk).2, h6⟩
structure DimF (o : List Int) : Prop where
  ge : 1 ≤ (realL o).length
  le : (realL o).length ≤ 3
  an : (realL o).length ≤ max 1 (Am.bits (Xe o)).length
  lt : ∀ k ∈ realL o, k < cn o
  sep : sepB o (realL o) = true
  one : (realL o).length = 1 ↔ ∀ i j, i < o.length → j < o.length → fr o i j = false
theorem dim_facts {o : List Int} (ho : ord o = true) : DimF o := by
  have hl := Xi ho
  have hp := pow6 hl.2
  obtain ⟨A, t, ha, hc, h1, h3, hA, hs⟩ := real_ex ho
  cases h : Xb (sepB o) (cn o) 1 t.length with
  | none => rw [shortest_none h t h1 (Nat.le_refl _) hc] at hs; cases hs
  | some q =>
    obtain ⟨hq, q1, q2, q3, q4⟩ := realL_of h h3
    have hA' : ∀ a ∈ A, a < o.length := fun a h => List.mem_range.1 (ha.sub a h)
    have hmA : (Am.bits (msk A)).length = A.length := bits_msk ha.nd fun a h => by have := hA' a h; omega
    have hu : uni o (msk A) true = true := (uni_iff (msk_lt hA')).2 fun i j hij hi hj => by
      rw [fr, decide_eq_true hij, ha.an i (msk_bit.1 hi) j (msk_bit.1 hj), ha.an j (msk_bit.1 hj) i (msk_bit.1 hi)]; rfl
    obtain ⟨m1, m2, m3, m4⟩ := antiTo_spec o (2 ^ o.length) (by omega)
    have hAl := m3 _ (msk_lt hA') hu
    rw [hmA, show antiTo o (2 ^ o.length) = Xe o from rfl] at hAl
    have h0 : 0 < cn o := by
      obtain ⟨k, hk⟩ := List.exists_mem_of_ne_nil q (fun hc => by rw [hc] at q1; simp at q1)
      have := q3 k hk; omega
    have hone : (realL o).length = 1 ↔ ∀ i j, i < o.length → j < o.length → fr o i j = false := by
      constructor
      · intro h1 i j hi hj
        cases hf : fr o i j with
        | false => rfl
        | true =>
          exfalso
          simp only [fr, Bool.and_eq_true, decide_eq_true_eq, Bool.not_eq_true'] at hf
          obtain ⟨k1, hk1, b1⟩ := sepB_iff.1 q4 i j hi hj hf.1.1 hf.1.2
          obtain ⟨k2, hk2, b2⟩ := sepB_iff.1 q4 j i hj hi (Ne.symm hf.1.1) hf.2
          rw [hq] at h1
          obtain ⟨k, rfl⟩ := List.length_eq_one_iff.1 h1
          rw [List.mem_singleton] at hk1 hk2
          rw [hk1, bef, decide_eq_true_eq] at b1
          rw [hk2, bef, decide_eq_true_eq] at b2
          omega
      · intro hno
        have hP : sepB o [0] = true := sepB_iff.2 fun i j hi hj hij hab => by
          have hf := hno i j hi hj
          cases hba : ab o j i with
          | false => simp [fr, hij, hab, hba] at hf
          | true => exact ⟨0, by simp, (Ww ho h0).ab j i hba⟩
        cases h2 : Xb (sepB o) (cn o) 1 1 with
        | none => rw [shortest_none h2 [0] (by simp) (by simp) ⟨Nat.le_refl _, h0, trivial⟩] at hP; cases hP
        | some q' =>
          obtain ⟨e1, e2, e3, _⟩ := realL_of h2 (by decide)
          rw [e1]; omega
    exact ⟨by rw [hq]; exact q1, by rw [hq]; omega, by rw [hq]; omega, by rw [hq]; exact q3, by rw [hq]; exact q4, hone⟩
/-- A table of masks. -/
def tbM (o : List Int) (f : Nat → Nat) : List Int := (List.range o.length).map fun x => ((f x : Nat) : Int)
theorem tbM_len (o : List Int) (f : Nat → Nat) : (tbM o f).length = o.length := by simp [tbM]
theorem tbM_get {o : List Int} {f : Nat → Nat} {x : Nat} (hx : x < o.length) : (tbM o f).getD x 0 = ((f x : Nat) : Int) := mapR_getD hx
theorem tbM_congr {o : List Int} {f g : Nat → Nat} (h : ∀ x, x < o.length → f x = g x) : tbM o f = tbM o g := List.map_congr_left fun x hx => by rw [h x (List.mem_range.1 hx)]
theorem tbM_set {o : List Int} {f g : Nat → Nat} {x y : Nat} (hg : ∀ k, k < o.length → g k = if k = x then y else f k) : (tbM o f).set x ((y : Nat) : Int) = tbM o g := by
  refine List.ext_getElem (by simp [tbM]) fun k h1 h2 => ?_
  have hk : k < o.length := by simpa [tbM] using h2
  rw [List.getElem_set]
  simp only [tbM, List.getElem_map, List.getElem_range]
  rw [hg k hk]
  by_cases hx : x = k
  · rw [if_pos hx, if_pos hx.symm]
  · rw [if_neg hx, if_neg (Ne.symm hx)]
/-- All below i. -/
def fuM (o : List Int) (i x : Nat) : Nat := if x < i then 2 ^ o.length - 1 else 0
/-- In the line k, elements ahead of place m are through. -/
def bsM (o : List Int) (pre : List Nat) (k m x : Nat) : Nat := if (lin o k).idxOf x < m then cmF o (pre ++ [k]) x else cmF o pre x
theorem bsM_zero (o : List Int) (pre : List Nat) (k x : Nat) : bsM o pre k 0 x = cmF o pre x := if_neg (Nat.not_lt_zero _)
theorem bsM_all {o : List Int} {pre : List Nat} {k x : Nat} (h : (lin o k).idxOf x < o.length) : bsM o pre k o.length x = cmF o (pre ++ [k]) x := if_pos h
theorem bsM_set {o : List Int} (ho : ord o = true) {pre : List Nat} {k m : Nat} (hk : k < cn o) (hm : m < o.length) {x : Nat} (hx : x < o.length) :
    bsM o pre k (m + 1) x = if x = (lin o k).getD m 0 then Wj (bsM o pre k m ((lin o k).getD m 0)) (msk ((lin o k).take (m + 1))) else bsM o pre k m x := by
  have lf := Ww ho hk
  have hl := Xi ho
  have hll : (lin o k).length = o.length := by rw [lf.pm.length_eq, List.length_range]
  have hml : m < (lin o k).length := by omega
  have hii := idx_at lf.nd hml
  have hxl : x ∈ lin o k := lf.pm.mem_iff.2 (List.mem_range.2 hx)
  by_cases hxm : x = (lin o k).getD m 0
  · rw [if_pos hxm, ← hxm]
    rw [← hxm] at hii
    rw [bsM, if_pos (by omega), bsM, if_neg (by omega), cmF_snoc]
    refine Nat.eq_of_testBit_eq fun j => ?_
    rw [Nat.testBit_and, less_bit', Bool.eq_iff_iff, Bool.and_eq_true, Bool.and_eq_true, Bool.not_eq_true']
    refine and_congr_right fun h1 => ?_
    have hj := ((cmF_bit o x j pre).1 h1).1.2
    have hjl : j ∈ lin o k := lf.pm.mem_iff.2 (List.mem_range.2 hj)
    rw [bhF_bit lf.nd, ← Bool.not_eq_true, msk_bit, bef, decide_eq_true_eq, hii]
    have hsp : j ∈ (lin o k).take (m + 1) ↔ (lin o k).idxOf j < m + 1 := by
      constructor
      · intro hj
        obtain ⟨a, ha, he⟩ := List.mem_iff_getElem.1 hj
        rw [List.getElem_take] at he
        rw [List.length_take] at ha
        have := idx_at lf.nd (k := a) (by omega)
        rw [getD_at (by omega), he] at this
        omega
      · intro h4
        have h5 := List.idxOf_lt_length_of_mem hjl
        have h6 := List.getElem_idxOf h5
        rw [List.mem_iff_getElem]
        exact ⟨(lin o k).idxOf j, by rw [List.length_take]; omega, by rw [List.getElem_take]; exact h6⟩
    rw [hsp]
    constructor
    · rintro ⟨_, h2⟩; omega
    · intro h2; exact ⟨hjl, by omega⟩
  · have hne : (lin o k).idxOf x ≠ m := fun h => hxm (idx_inj hxl (by rw [getD_at hml]; exact List.getElem_mem hml) (by rw [h, hii]))
    rw [if_neg hxm, bsM, bsM]
    by_cases h1 : (lin o k).idxOf x < m
    · rw [if_pos (by omega), if_pos h1]
    · rw [if_neg (by omega), if_neg h1]
theorem cmF_ltn {o : List Int} (pre : List Nat) (x : Nat) : cmF o pre x < 2 ^ o.length := lt_of_bits fun j hj => by
  cases hb : (cmF o pre x).testBit j with
  | false => rfl
  | true => have := ((cmF_bit o x j pre).1 hb).1.2; omega
theorem bsM_lt {o : List Int} (pre : List Nat) (k m x : Nat) : bsM o pre k m x < 2 ^ o.length := by
  rw [bsM]; split <;> exact cmF_ltn _ _
theorem tbM_all {o : List Int} (ho : ord o = true) {q : List Nat} (h0 : q ≠ []) (hk : ∀ k ∈ q, k < cn o) (hs : sepB o q = true) : tbM o (cmF o q) = o := by
  have hl := Xi ho
  have h1 := (cmF_sep ho h0 hk).2 hs
  refine List.ext_getElem (tbM_len o _) fun x h2 h3 => ?_
  have := (ord_nat ho h3).1
  rw [List.getD, List.getElem?_eq_getElem h3, Option.getD_some] at this
  simp only [tbM, List.getElem_map, List.getElem_range]
  rw [h1 x (by omega), this]
/-- Some pair ahead of (i, j) is free. -/
def fB (o : List Int) (i j : Nat) : Bool := ((List.range i).any fun x => (List.range o.length).any (fr o x)) || (List.range j).any (fr o i)
theorem fB_succ (o : List Int) (i j : Nat) : fB o i (j + 1) = (fB o i j || fr o i j) := by
  rw [fB, fB, List.range_succ, List.any_append, Bool.or_assoc]; simp
theorem fB_next (o : List Int) (i : Nat) : fB o i o.length = fB o (i + 1) 0 := by
  rw [fB, fB, List.range_succ, List.any_append]; simp
theorem fB_all {o : List Int} : fB o o.length 0 = false ↔ ∀ i j, i < o.length → j < o.length → fr o i j = false := by
  rw [fB]
  simp only [List.range_zero, List.any_nil, Bool.or_false, List.any_eq_false, List.mem_range, Bool.not_eq_true]
  exact ⟨fun h i j hi hj => h i hi j hj, fun h i hi j hj => h i j hi hj⟩
theorem takeF {o : List Int} (h : ord o = false) : ord (o.take 9) = false := by rw [ord_take]; exact h
theorem realTake {o : List Int} {h : Zy} {x : Value} {e : Int} (hi : RealIs (o.take 9) h x e) : RealIs o h x e := by
  cases ho : ord o with
  | true => rw [ord_take_eq ho] at hi; exact hi
  | false => rw [RealIs, takeF ho, if_neg (by decide)] at hi; rw [RealIs, ho, if_neg (by decide)]; exact hi
theorem dimTake (o : List Int) : dimV (o.take 9) = dimV o := by
  cases ho : ord o with
  | true => rw [ord_take_eq ho]
  | false => rw [dimV, takeF ho, if_neg (by decide), dimV, ho, if_neg (by decide)]
theorem antiTake (o : List Int) : antiV (o.take 9) = antiV o := by
  cases ho : ord o with
  | true => rw [ord_take_eq ho]
  | false => rw [antiV, takeF ho, if_neg (by decide), antiV, ho, if_neg (by decide)]
theorem realLLn (o : List Int) : (realLL o).length = (realL o).length := by simp [realLL]
theorem antiLt {o : List Int} (ho : ord o = true) : Xe o < 2 ^ o.length := by
  have hp := pow6 (Xi ho).2
  exact (antiTo_spec o (2 ^ o.length) (by omega)).1
theorem and63 {a : Nat} (h : a < 64) : Wd .and .i64 ((a : Nat) : Int) 63 = ((a : Nat) : Int) := by
  have := Vi (a := a) (b := 63) (by omega) (by omega)
  rw [show ((63 : Nat) : Int) = 63 from rfl] at this
  rw [this, show a &&& 63 = a % 2 ^ 6 from Nat.and_two_pow_sub_one_eq_mod a 6, Nat.mod_eq_of_lt h]

theorem s11_callW [Tabs Tryd.prog] {args : List Value} {h : Zy} {Q : Value → Zy → Prop} (hsz : args.length ≤ 180) (hk : AWS Tryd.prog 180 s11 (Zu Tryd.prog [.tmp 2] Q) (Zp 0 args) h) : ACall Tryd.prog 11 args h Q :=
  acall_w Tryd.func11 rfl (enters_of Tryd.func11 (by kernel_rfl) rfl) rfl rfl (by decide) s11_strip s11_ok hsz hk
theorem law_dims [BitTab prog 1] {h : Zy} {v : Value} {o : List Int} (hv : IntSl h v o) (hl : o.length < 9223372036854775808) (hx : ∀ x ∈ o, -9223372036854775808 ≤ x ∧ x < 9223372036854775808) :
    ACall prog 11 [v] h fun r _ => r = .bool true := by
  have hx9 : ∀ x ∈ o.take 9, -9223372036854775808 ≤ x ∧ x < 9223372036854775808 := fun x hm => hx x (List.take_subset _ _ hm)
  have hl9 : (o.take 9).length < 9223372036854775808 := by simp; omega
  refine s11_callW (by simp) ?_
  simp only [s11]
  refine Yc fun N1 hN1 => ?_
  simp (maxSteps := 2000000) only [s11, ↓Za, ↓Zn, ↓Zr, ↓Ze, ↓Zj, ↓Zs, ↓Zg, ↓Zh, ↓Zf, ↓Zb, ↓Zc, ↓vdn, vup, Zm, Zk, Zl, Zi, Zo, List.map_cons, List.map_nil, cond_true, cond_false, aop, Zv, Zq, Zp, ev, sput, Zt, Zz, Yb, unK, Zd, Zw, Nat.reduceBEq, Nat.reduceAdd, Int.reduceBEq, Int.reduceBNe, Int.reduceLT, Zu, Ya, tup, tyf]
  refine hN1 [(0, v), (2, .bool false)] _ _ ?_ (by simp (maxSteps := 2000000) only [↓Za, ↓Zn, ↓Zr, ↓Ze, ↓Zj, ↓Zs, ↓Zg, ↓Zh, ↓Zf, ↓Zb, ↓Zc, ↓vdn, vup, Zm, Zk, Zl, Zi, Zo, List.map_cons, List.map_nil, cond_true, cond_false, aop, Zv, Zq, Zp, ev, sput, Zt, Zz, Yb, unK, Zd, Zw, Nat.reduceBEq, Nat.reduceAdd, Int.reduceBEq, Int.reduceBNe, Int.reduceLT, Zu, Ya, tup, tyf])
  clear hN1
  try clear N1
  refine Yc fun N2 hN2 => ?_
  simp (maxSteps := 2000000) only [s11, ↓Za, ↓Zn, ↓Zr, ↓Ze, ↓Zj, ↓Zs, ↓Zg, ↓Zh, ↓Zf, ↓Zb, ↓Zc, ↓vdn, vup, Zm, Zk, Zl, Zi, Zo, List.map_cons, List.map_nil, cond_true, cond_false, aop, Zv, Zq, Zp, ev, sput, Zt, Zz, Yb, unK, Zd, Zw, Nat.reduceBEq, Nat.reduceAdd, Int.reduceBEq, Int.reduceBNe, Int.reduceLT, Zu, Ya, tup, tyf, Xh, List.nil_append, List.append_nil, List.toList_toArray, List.cons_append]
  refine (list_call hv hl).mono ?_
  rintro l1 _ ⟨hl1, g1, rfl⟩
  refine (real_call hl1 hl9 hx9).mono ?_
  rintro _ h1 ⟨hE1, x1, e1, rfl, hi1⟩
  replace hi1 := realTake hi1
  have hv1 := Wm (hv.grow g1) hE1
  simp (maxSteps := 2000000) only [s11, ↓Za, ↓Zn, ↓Zr, ↓Ze, ↓Zj, ↓Zs, ↓Zg, ↓Zh, ↓Zf, ↓Zb, ↓Zc, ↓vdn, vup, Zm, Zk, Zl, Zi, Zo, List.map_cons, List.map_nil, cond_true, cond_false, aop, Zv, Zq, Zp, ev, sput, Zt, Zz, Yb, unK, Zd, Zw, Nat.reduceBEq, Nat.reduceAdd, Int.reduceBEq, Int.reduceBNe, Int.reduceLT, Zu, Ya, tup, tyf]
  refine hN2 [(0, v), (2, .bool false), (3, x1), (4, .int .i64 e1)] _ _ ?_ (by simp (maxSteps := 2000000) only [↓Za, ↓Zn, ↓Zr, ↓Ze, ↓Zj, ↓Zs, ↓Zg, ↓Zh, ↓Zf, ↓Zb, ↓Zc, ↓vdn, vup, Zm, Zk, Zl, Zi, Zo, List.map_cons, List.map_nil, cond_true, cond_false, aop, Zv, Zq, Zp, ev, sput, Zt, Zz, Yb, unK, Zd, Zw, Nat.reduceBEq, Nat.reduceAdd, Int.reduceBEq, Int.reduceBNe, Int.reduceLT, Zu, Ya, tup, tyf])
  clear hN2
  try clear N2
  refine Yc fun N3 hN3 => ?_
  simp (maxSteps := 2000000) only [s11, ↓Za, ↓Zn, ↓Zr, ↓Ze, ↓Zj, ↓Zs, ↓Zg, ↓Zh, ↓Zf, ↓Zb, ↓Zc, ↓vdn, vup, Zm, Zk, Zl, Zi, Zo, List.map_cons, List.map_nil, cond_true, cond_false, aop, Zv, Zq, Zp, ev, sput, Zt, Zz, Yb, unK, Zd, Zw, Nat.reduceBEq, Nat.reduceAdd, Int.reduceBEq, Int.reduceBNe, Int.reduceLT, Zu, Ya, tup, tyf, Xh, List.nil_append, List.append_nil, List.toList_toArray, List.cons_append]
  refine (list_call hv1 hl).mono ?_
  rintro l2 _ ⟨hl2, g2, rfl⟩
  refine (dim_call hl2 hl9 hx9).mono ?_
  rintro _ _ ⟨rfl, rfl⟩
  rw [dimTake]
  have hv2 := hv1.grow g2
  have hE12 : Ext (fun _ => False) h1 (h1 ++ g2) := Ext.app _ _ _
  obtain ⟨h2, hh2⟩ : ∃ H, H = h1 ++ g2 := ⟨_, rfl⟩
  rw [← hh2] at hv2 hE12 ⊢
  have z00 : ((0 : Int) == 0) = true := rfl
  have n00 : ((0 : Int) != 0) = false := rfl
  have n20 : ((2 : Int) != 0) = true := rfl
  have e22 : ((2 : Int) == 2) = true := rfl
  cases ho : ord o with
  | false =>
    rw [RealIs, ho, if_neg (by decide)] at hi1
    obtain ⟨rfl, rfl⟩ := hi1
    rw [dimV, ho, if_neg (by decide)]
    simp (maxSteps := 2000000) only [s11, ↓Za, ↓Zn, ↓Zr, ↓Ze, ↓Zj, ↓Zs, ↓Zg, ↓Zh, ↓Zf, ↓Zb, ↓Zc, ↓vdn, vup, Zm, Zk, Zl, Zi, Zo, List.map_cons, List.map_nil, cond_true, cond_false, aop, Zv, Zq, Zp, ev, sput, Zt, Zz, Yb, unK, Zd, Zw, Nat.reduceBEq, Nat.reduceAdd, Int.reduceBEq, Int.reduceBNe, Int.reduceLT, Zu, Ya, tup, tyf]
    refine hN3 [(0, v), (2, .bool false), (3, .slice none 0 0), (4, .int .i64 2), (5, .int .i64 0), (6, .int .i64 2)] _ _ ?_ (by simp (maxSteps := 2000000) only [↓Za, ↓Zn, ↓Zr, ↓Ze, ↓Zj, ↓Zs, ↓Zg, ↓Zh, ↓Zf, ↓Zb, ↓Zc, ↓vdn, vup, Zm, Zk, Zl, Zi, Zo, List.map_cons, List.map_nil, cond_true, cond_false, aop, Zv, Zq, Zp, ev, sput, Zt, Zz, Yb, unK, Zd, Zw, Nat.reduceBEq, Nat.reduceAdd, Int.reduceBEq, Int.reduceBNe, Int.reduceLT, Zu, Ya, tup, tyf])
    clear hN3
    try clear N3
    refine Yc fun N4 hN4 => ?_
    simp (maxSteps := 2000000) only [s11, ↓Za, ↓Zn, ↓Zr, ↓Ze, ↓Zj, ↓Zs, ↓Zg, ↓Zh, ↓Zf, ↓Zb, ↓Zc, ↓vdn, vup, Zm, Zk, Zl, Zi, Zo, List.map_cons, List.map_nil, cond_true, cond_false, aop, Zv, Zq, Zp, ev, sput, Zt, Zz, Yb, unK, Zd, Zw, Nat.reduceBEq, Nat.reduceAdd, Int.reduceBEq, Int.reduceBNe, Int.reduceLT, Zu, Ya, tup, tyf, Xh, List.nil_append, List.append_nil, List.toList_toArray, List.cons_append]
    refine (list_call hv2 hl).mono ?_
    rintro l3 _ ⟨hl3, g3, rfl⟩
    refine (anti_call hl3 hl9 hx9).mono ?_
    rintro _ _ ⟨rfl, rfl⟩
    rw [antiTake, antiV, ho, if_neg (by decide)]
    simp (maxSteps := 2000000) only [s11, ↓Za, ↓Zn, ↓Zr, ↓Ze, ↓Zj, ↓Zs, ↓Zg, ↓Zh, ↓Zf, ↓Zb, ↓Zc, ↓vdn, vup, Zm, Zk, Zl, Zi, Zo, List.map_cons, List.map_nil, cond_true, cond_false, aop, Zv, Zq, Zp, ev, sput, Zt, Zz, Yb, unK, Zd, Zw, Nat.reduceBEq, Nat.reduceAdd, Int.reduceBEq, Int.reduceBNe, Int.reduceLT, Zu, Ya, tup, tyf]
    refine hN4 [(0, v), (2, .bool false), (3, .slice none 0 0), (4, .int .i64 2), (5, .int .i64 0), (6, .int .i64 2), (7, .int .i64 0), (8, .int .i64 2)] _ _ ?_ (by simp (maxSteps := 2000000) only [↓Za, ↓Zn, ↓Zr, ↓Ze, ↓Zj, ↓Zs, ↓Zg, ↓Zh, ↓Zf, ↓Zb, ↓Zc, ↓vdn, vup, Zm, Zk, Zl, Zi, Zo, List.map_cons, List.map_nil, cond_true, cond_false, aop, Zv, Zq, Zp, ev, sput, Zt, Zz, Yb, unK, Zd, Zw, Nat.reduceBEq, Nat.reduceAdd, Int.reduceBEq, Int.reduceBNe, Int.reduceLT, Zu, Ya, tup, tyf])
    clear hN4
    try clear N4
    refine Yh fun M hM => ?_
    refine Yc fun N5 hN5 => ?_
    simp (maxSteps := 2000000) only [s11, ↓Za, ↓Zn, ↓Zr, ↓Ze, ↓Zj, ↓Zs, ↓Zg, ↓Zh, ↓Zf, ↓Zb, ↓Zc, ↓vdn, vup, Zm, Zk, Zl, Zi, Zo, List.map_cons, List.map_nil, cond_true, cond_false, aop, Zv, Zq, Zp, ev, sput, Zt, Zz, Yb, unK, Zd, Zw, Nat.reduceBEq, Nat.reduceAdd, Int.reduceBEq, Int.reduceBNe, Int.reduceLT, Zu, Ya, tup, tyf, n20]
    refine hN5 [(0, v), (2, .bool false), (3, .slice none 0 0), (4, .int .i64 2), (5, .int .i64 0), (6, .int .i64 2), (7, .int .i64 0), (8, .int .i64 2), (43, .bool true)] _ _ ?_ (by simp (maxSteps := 2000000) only [↓Za, ↓Zn, ↓Zr, ↓Ze, ↓Zj, ↓Zs, ↓Zg, ↓Zh, ↓Zf, ↓Zb, ↓Zc, ↓vdn, vup, Zm, Zk, Zl, Zi, Zo, List.map_cons, List.map_nil, cond_true, cond_false, aop, Zv, Zq, Zp, ev, sput, Zt, Zz, Yb, unK, Zd, Zw, Nat.reduceBEq, Nat.reduceAdd, Int.reduceBEq, Int.reduceBNe, Int.reduceLT, Zu, Ya, tup, tyf])
    clear hN5
    try clear N5
    refine Vf rfl ?_
    refine Yn ?_
    simp (maxSteps := 2000000) only [s11, ↓Za, ↓Zn, ↓Zr, ↓Ze, ↓Zj, ↓Zs, ↓Zg, ↓Zh, ↓Zf, ↓Zb, ↓Zc, ↓vdn, vup, Zm, Zk, Zl, Zi, Zo, List.map_cons, List.map_nil, cond_true, cond_false, aop, Zv, Zq, Zp, ev, sput, Zt, Zz, Yb, unK, Zd, Zw, Nat.reduceBEq, Nat.reduceAdd, Int.reduceBEq, Int.reduceBNe, Int.reduceLT, Zu, Ya, tup, tyf, e22, Xh, List.nil_append, List.append_nil, List.toList_toArray, List.cons_append]
    refine awake_call.mono ?_
    rintro _ _ ⟨rfl, rfl⟩
    simp (maxSteps := 2000000) only [s11, ↓Za, ↓Zn, ↓Zr, ↓Ze, ↓Zj, ↓Zs, ↓Zg, ↓Zh, ↓Zf, ↓Zb, ↓Zc, ↓vdn, vup, Zm, Zk, Zl, Zi, Zo, List.map_cons, List.map_nil, cond_true, cond_false, aop, Zv, Zq, Zp, ev, sput, Zt, Zz, Yb, unK, Zd, Zw, Nat.reduceBEq, Nat.reduceAdd, Int.reduceBEq, Int.reduceBNe, Int.reduceLT, Zu, Ya, tup, tyf]
  | true =>
    have hln := Xi ho
    have hp := pow6 hln.2
    have hcn := cn_le ho
    have hsh : shlV .i64 1 ((o.length : Nat) : Int) = ((2 ^ o.length : Nat) : Int) := by rw [shl1 (by omega), Wy]
    rw [RealIs, ho, if_pos rfl] at hi1
    obtain ⟨rfl, hr1⟩ := hi1
    have df := dim_facts ho
    obtain ⟨n, hn⟩ : ∃ n, (realL o).length = n := ⟨_, rfl⟩
    have d1 := df.ge
    have d2 := df.le
    have d3 := df.an
    rw [hn] at d1 d2 d3
    have hLL : (realLL o).length = n := (realLLn o).trans hn
    rw [dimV, ho, if_pos rfl, hn]
    simp (maxSteps := 2000000) only [s11, ↓Za, ↓Zn, ↓Zr, ↓Ze, ↓Zj, ↓Zs, ↓Zg, ↓Zh, ↓Zf, ↓Zb, ↓Zc, ↓vdn, vup, Zm, Zk, Zl, Zi, Zo, List.map_cons, List.map_nil, cond_true, cond_false, aop, Zv, Zq, Zp, ev, sput, Zt, Zz, Yb, unK, Zd, Zw, Nat.reduceBEq, Nat.reduceAdd, Int.reduceBEq, Int.reduceBNe, Int.reduceLT, Zu, Ya, tup, tyf]
    refine hN3 [(0, v), (2, .bool false), (3, x1), (4, .int .i64 0), (5, Zx (n : Nat)), (6, .int .i64 0)] _ _ ?_ (by simp (maxSteps := 2000000) only [↓Za, ↓Zn, ↓Zr, ↓Ze, ↓Zj, ↓Zs, ↓Zg, ↓Zh, ↓Zf, ↓Zb, ↓Zc, ↓vdn, vup, Zm, Zk, Zl, Zi, Zo, List.map_cons, List.map_nil, cond_true, cond_false, aop, Zv, Zq, Zp, ev, sput, Zt, Zz, Yb, unK, Zd, Zw, Nat.reduceBEq, Nat.reduceAdd, Int.reduceBEq, Int.reduceBNe, Int.reduceLT, Zu, Ya, tup, tyf])
    clear hN3
    try clear N3
    refine Yc fun N6 hN6 => ?_
    simp (maxSteps := 2000000) only [s11, ↓Za, ↓Zn, ↓Zr, ↓Ze, ↓Zj, ↓Zs, ↓Zg, ↓Zh, ↓Zf, ↓Zb, ↓Zc, ↓vdn, vup, Zm, Zk, Zl, Zi, Zo, List.map_cons, List.map_nil, cond_true, cond_false, aop, Zv, Zq, Zp, ev, sput, Zt, Zz, Yb, unK, Zd, Zw, Nat.reduceBEq, Nat.reduceAdd, Int.reduceBEq, Int.reduceBNe, Int.reduceLT, Zu, Ya, tup, tyf, Xh, List.nil_append, List.append_nil, List.toList_toArray, List.cons_append]
    refine (list_call hv2 hl).mono ?_
    rintro l3 _ ⟨hl3, g3, rfl⟩
    refine (anti_call hl3 hl9 hx9).mono ?_
    rintro _ _ ⟨rfl, rfl⟩
    rw [antiTake, antiV, ho, if_pos rfl]
    have hv3 := hv2.grow g3
    have hE13 : Ext (fun _ => False) h1 (h2 ++ g3) := hE12.trans (Ext.app _ _ _)
    obtain ⟨H, hH⟩ : ∃ H, H = h2 ++ g3 := ⟨_, rfl⟩
    rw [← hH] at hv3 hE13 ⊢
    clear hH hh2 hv2
    have hrH := hr1.ext hE13
    simp (maxSteps := 2000000) only [s11, ↓Za, ↓Zn, ↓Zr, ↓Ze, ↓Zj, ↓Zs, ↓Zg, ↓Zh, ↓Zf, ↓Zb, ↓Zc, ↓vdn, vup, Zm, Zk, Zl, Zi, Zo, List.map_cons, List.map_nil, cond_true, cond_false, aop, Zv, Zq, Zp, ev, sput, Zt, Zz, Yb, unK, Zd, Zw, Nat.reduceBEq, Nat.reduceAdd, Int.reduceBEq, Int.reduceBNe, Int.reduceLT, Zu, Ya, tup, tyf]
    refine hN6 [(0, v), (2, .bool false), (3, x1), (4, .int .i64 0), (5, Zx (n : Nat)), (6, .int .i64 0), (7, Zx (Xe o : Nat)), (8, .int .i64 0)] _ _ ?_ (by simp (maxSteps := 2000000) only [↓Za, ↓Zn, ↓Zr, ↓Ze, ↓Zj, ↓Zs, ↓Zg, ↓Zh, ↓Zf, ↓Zb, ↓Zc, ↓vdn, vup, Zm, Zk, Zl, Zi, Zo, List.map_cons, List.map_nil, cond_true, cond_false, aop, Zv, Zq, Zp, ev, sput, Zt, Zz, Yb, unK, Zd, Zw, Nat.reduceBEq, Nat.reduceAdd, Int.reduceBEq, Int.reduceBNe, Int.reduceLT, Zu, Ya, tup, tyf])
    clear hN6
    try clear N6
    refine Yh fun M hM => ?_
    refine Yc fun N7 hN7 => ?_
    simp (maxSteps := 2000000) only [s11, ↓Za, ↓Zn, ↓Zr, ↓Ze, ↓Zj, ↓Zs, ↓Zg, ↓Zh, ↓Zf, ↓Zb, ↓Zc, ↓vdn, vup, Zm, Zk, Zl, Zi, Zo, List.map_cons, List.map_nil, cond_true, cond_false, aop, Zv, Zq, Zp, ev, sput, Zt, Zz, Yb, unK, Zd, Zw, Nat.reduceBEq, Nat.reduceAdd, Int.reduceBEq, Int.reduceBNe, Int.reduceLT, Zu, Ya, tup, tyf, n00, Xh, List.nil_append, List.append_nil, List.toList_toArray, List.cons_append]
    refine (rorder_call hv3 hl hx).mono ?_
    rintro _ H ⟨rfl, rfl⟩
    simp (maxSteps := 2000000) only [s11, ↓Za, ↓Zn, ↓Zr, ↓Ze, ↓Zj, ↓Zs, ↓Zg, ↓Zh, ↓Zf, ↓Zb, ↓Zc, ↓vdn, vup, Zm, Zk, Zl, Zi, Zo, List.map_cons, List.map_nil, cond_true, cond_false, aop, Zv, Zq, Zp, ev, sput, Zt, Zz, Yb, unK, Zd, Zw, Nat.reduceBEq, Nat.reduceAdd, Int.reduceBEq, Int.reduceBNe, Int.reduceLT, Zu, Ya, tup, tyf, ho, Bool.not_true]
    refine hN7 [(0, v), (2, .bool false), (3, x1), (4, .int .i64 0), (5, Zx (n : Nat)), (6, .int .i64 0), (7, Zx (Xe o : Nat)), (8, .int .i64 0), (43, .bool false)] _ _ ?_ (by simp (maxSteps := 2000000) only [↓Za, ↓Zn, ↓Zr, ↓Ze, ↓Zj, ↓Zs, ↓Zg, ↓Zh, ↓Zf, ↓Zb, ↓Zc, ↓vdn, vup, Zm, Zk, Zl, Zi, Zo, List.map_cons, List.map_nil, cond_true, cond_false, aop, Zv, Zq, Zp, ev, sput, Zt, Zz, Yb, unK, Zd, Zw, Nat.reduceBEq, Nat.reduceAdd, Int.reduceBEq, Int.reduceBNe, Int.reduceLT, Zu, Ya, tup, tyf])
    clear hN7
    try clear N7
    refine Xt rfl ?_
    refine Yn ?_
    simp (maxSteps := 2000000) only [s11, ↓Za, ↓Zn, ↓Zr, ↓Ze, ↓Zj, ↓Zs, ↓Zg, ↓Zh, ↓Zf, ↓Zb, ↓Zc, ↓vdn, vup, Zm, Zk, Zl, Zi, Zo, List.map_cons, List.map_nil, cond_true, cond_false, aop, Zv, Zq, Zp, ev, sput, Zt, Zz, Yb, unK, Zd, Zw, Nat.reduceBEq, Nat.reduceAdd, Int.reduceBEq, Int.reduceBNe, Int.reduceLT, Zu, Ya, tup, tyf]
    refine hM [(0, v), (2, .bool false), (3, x1), (4, .int .i64 0), (5, Zx (n : Nat)), (6, .int .i64 0), (7, Zx (Xe o : Nat)), (8, .int .i64 0)] _ _ ?_ (by simp (maxSteps := 2000000) only [↓Za, ↓Zn, ↓Zr, ↓Ze, ↓Zj, ↓Zs, ↓Zg, ↓Zh, ↓Zf, ↓Zb, ↓Zc, ↓vdn, vup, Zm, Zk, Zl, Zi, Zo, List.map_cons, List.map_nil, cond_true, cond_false, aop, Zv, Zq, Zp, ev, sput, Zt, Zz, Yb, unK, Zd, Zw, Nat.reduceBEq, Nat.reduceAdd, Int.reduceBEq, Int.reduceBNe, Int.reduceLT, Zu, Ya, tup, tyf])
    clear hM
    try clear M
    have ha64 : Xe o < 64 := by have := antiLt ho; omega
    obtain ⟨sz, hsz⟩ : ∃ sz, (Am.bits (Xe o)).length = sz := ⟨_, rfl⟩
    rw [hsz] at d3
    have hnn : ((n : Int) != n) = false := by simp
    have hn1 : ¬ ((n : Int) < 1) := by omega
    have hn3 : ¬ ((n : Int) > 3) := by omega
    have hmx : ¬ ((n : Int) > if (sz : Int) > 1 then (sz : Int) else 1) := by split <;> omega
    refine Yh fun M hM => ?_
    refine Yc fun N8 hN8 => ?_
    simp (maxSteps := 2000000) only [s11, ↓Za, ↓Zn, ↓Zr, ↓Ze, ↓Zj, ↓Zs, ↓Zg, ↓Zh, ↓Zf, ↓Zb, ↓Zc, ↓vdn, vup, Zm, Zk, Zl, Zi, Zo, List.map_cons, List.map_nil, cond_true, cond_false, aop, Zv, Zq, Zp, ev, sput, Zt, Zz, Yb, unK, Zd, Zw, Nat.reduceBEq, Nat.reduceAdd, Int.reduceBEq, Int.reduceBNe, Int.reduceLT, Zu, Ya, tup, tyf, n00, hrH.len, hLL, hnn, hn1, hn3, and63 ha64, Xh, List.nil_append, List.append_nil, List.toList_toArray, List.cons_append]
    refine (size_call (show Xe o < 9223372036854775808 by omega)).mono ?_
    rintro _ H ⟨rfl, rfl⟩
    simp (maxSteps := 2000000) only [s11, ↓Za, ↓Zn, ↓Zr, ↓Ze, ↓Zj, ↓Zs, ↓Zg, ↓Zh, ↓Zf, ↓Zb, ↓Zc, ↓vdn, vup, Zm, Zk, Zl, Zi, Zo, List.map_cons, List.map_nil, cond_true, cond_false, aop, Zv, Zq, Zp, ev, sput, Zt, Zz, Yb, unK, Zd, Zw, Nat.reduceBEq, Nat.reduceAdd, Int.reduceBEq, Int.reduceBNe, Int.reduceLT, Zu, Ya, tup, tyf, mmK, hsz, hmx, if_true]
    refine hN8 [(0, v), (2, .bool false), (3, x1), (4, .int .i64 0), (5, Zx (n : Nat)), (6, .int .i64 0), (7, Zx (Xe o : Nat)), (8, .int .i64 0), (86, .bool false)] _ _ ?_ (by simp (maxSteps := 2000000) only [↓Za, ↓Zn, ↓Zr, ↓Ze, ↓Zj, ↓Zs, ↓Zg, ↓Zh, ↓Zf, ↓Zb, ↓Zc, ↓vdn, vup, Zm, Zk, Zl, Zi, Zo, List.map_cons, List.map_nil, cond_true, cond_false, aop, Zv, Zq, Zp, ev, sput, Zt, Zz, Yb, unK, Zd, Zw, Nat.reduceBEq, Nat.reduceAdd, Int.reduceBEq, Int.reduceBNe, Int.reduceLT, Zu, Ya, tup, tyf])
    clear hN8
    try clear N8
    refine Xt rfl ?_
    refine Yn ?_
    simp (maxSteps := 2000000) only [s11, ↓Za, ↓Zn, ↓Zr, ↓Ze, ↓Zj, ↓Zs, ↓Zg, ↓Zh, ↓Zf, ↓Zb, ↓Zc, ↓vdn, vup, Zm, Zk, Zl, Zi, Zo, List.map_cons, List.map_nil, cond_true, cond_false, aop, Zv, Zq, Zp, ev, sput, Zt, Zz, Yb, unK, Zd, Zw, Nat.reduceBEq, Nat.reduceAdd, Int.reduceBEq, Int.reduceBNe, Int.reduceLT, Zu, Ya, tup, tyf]
    refine hM [(0, v), (2, .bool false), (3, x1), (4, .int .i64 0), (5, Zx (n : Nat)), (6, .int .i64 0), (7, Zx (Xe o : Nat)), (8, .int .i64 0)] _ _ ?_ (by simp (maxSteps := 2000000) only [↓Za, ↓Zn, ↓Zr, ↓Ze, ↓Zj, ↓Zs, ↓Zg, ↓Zh, ↓Zf, ↓Zb, ↓Zc, ↓vdn, vup, Zm, Zk, Zl, Zi, Zo, List.map_cons, List.map_nil, cond_true, cond_false, aop, Zv, Zq, Zp, ev, sput, Zt, Zz, Yb, unK, Zd, Zw, Nat.reduceBEq, Nat.reduceAdd, Int.reduceBEq, Int.reduceBNe, Int.reduceLT, Zu, Ya, tup, tyf])
    clear hM
    try clear M
    have hmk : ∀ {K : Value → Zy → Prop}, makeK prog H 22 (Zx (o.length : Nat)) (Zx (o.length : Nat)) K = K (.slice (some ⟨H.length, 0, none⟩) o.length o.length) (H ++ [.ints (List.replicate o.length 0) 3 false]) := fun {K} => makeI Wq zero_3 info_3 (by omega) (by omega)
    obtain ⟨X, hXd⟩ : ∃ X : List Int → Zy, X = fun T => H ++ [Blk.ints T 3 false] := ⟨_, rfl⟩
    have hX0 : H ++ [.ints (List.replicate o.length 0) 3 false] = X (tbM o (fuM o 0)) := by
      rw [hXd]
      simp only
      have : List.replicate o.length (0 : Int) = tbM o (fuM o 0) := List.ext_getElem (by simp [tbM]) fun k h1 h2 => by simp [tbM, fuM]
      rw [this]
    have b1 : ∀ T, (X T)[H.length]? = some (.ints T 3 false) := fun T => by rw [hXd]; exact Yp _ _
    have xE : ∀ T, Ext (fun _ => False) H (X T) := fun T => by rw [hXd]; exact Ext.app _ _ _
    have xset : ∀ T T', (X T).set H.length (.ints T' 3 false) = X T' := fun T T' => by rw [hXd]; exact setEnd _ _ _
    have hvX : ∀ T : List Int, IntSl (X T) v o := fun T => Wm hv3 (xE T)
    have hrX : ∀ T : List Int, RdL 3 (X T) x1 (realLL o) := fun T => hrH.ext (xE T)
    obtain ⟨S, hS⟩ : ∃ S : Value, S = .slice (some ⟨H.length, 0, none⟩) o.length o.length := ⟨_, rfl⟩
    have hSX : ∀ f, IntSl (X (tbM o f)) S (tbM o f) := fun f => by rw [hS]; exact intSl_tab H.length (tbM_len o f) (b1 _)
    have hSl : ∀ {K : Value → Prop}, lenK S K = K (Zx o.length) := fun {K} => by rw [(hSX (fuM o 0)).len, tbM_len]
    have hidx : ∀ {x : Nat} {K : Value → Prop}, x < o.length → Yr prog 22 S (Zx (x : Nat)) K = K (.pointer (some ⟨H.length, x, none⟩)) := fun {x K} hx => by rw [hS]; exact idxS Wq Xx hx
    refine Yc fun N9 hN9 => ?_
    simp (maxSteps := 2000000) only [s11, ↓Za, ↓Zn, ↓Zr, ↓Ze, ↓Zj, ↓Zs, ↓Zg, ↓Zh, ↓Zf, ↓Zb, ↓Zc, ↓vdn, vup, Zm, Zk, Zl, Zi, Zo, List.map_cons, List.map_nil, cond_true, cond_false, aop, Zv, Zq, Zp, ev, sput, Zt, Zz, Yb, unK, Zd, Zw, Nat.reduceBEq, Nat.reduceAdd, Int.reduceBEq, Int.reduceBNe, Int.reduceLT, Zu, Ya, tup, tyf, hv3.len, hmk]
    rw [hX0, ← hS]
    refine hN9 [(0, v), (2, .bool false), (3, x1), (4, .int .i64 0), (5, Zx (n : Nat)), (6, .int .i64 0), (7, Zx (Xe o : Nat)), (8, .int .i64 0), (9, S)] _ _ ?_ (by simp (maxSteps := 2000000) only [↓Za, ↓Zn, ↓Zr, ↓Ze, ↓Zj, ↓Zs, ↓Zg, ↓Zh, ↓Zf, ↓Zb, ↓Zc, ↓vdn, vup, Zm, Zk, Zl, Zi, Zo, List.map_cons, List.map_nil, cond_true, cond_false, aop, Zv, Zq, Zp, ev, sput, Zt, Zz, Yb, unK, Zd, Zw, Nat.reduceBEq, Nat.reduceAdd, Int.reduceBEq, Int.reduceBNe, Int.reduceLT, Zu, Ya, tup, tyf])
    clear hN9
    try clear N9
    clear hX0 hXd hmk
    have hsub : subV .i64 ((2 ^ o.length : Nat) : Int) 1 = ((2 ^ o.length - 1 : Nat) : Int) := by rw [subV_id (by omega) (by omega)]; omega
    refine Yh fun Z hZ => ?_
    refine Yc fun N10 hN10 => ?_
    simp (maxSteps := 2000000) only [s11, ↓Za, ↓Zn, ↓Zr, ↓Ze, ↓Zj, ↓Zs, ↓Zg, ↓Zh, ↓Zf, ↓Zb, ↓Zc, ↓vdn, vup, Zm, Zk, Zl, Zi, Zo, List.map_cons, List.map_nil, cond_true, cond_false, aop, Zv, Zq, Zp, ev, sput, Zt, Zz, Yb, unK, Zd, Zw, Nat.reduceBEq, Nat.reduceAdd, Int.reduceBEq, Int.reduceBNe, Int.reduceLT, Zu, Ya, tup, tyf, hSl]
    refine hN10 [(0, v), (2, .bool false), (3, x1), (4, .int .i64 0), (5, Zx (n : Nat)), (6, .int .i64 0), (7, Zx (Xe o : Nat)), (8, .int .i64 0), (9, S), (91, Zx o.length), (92, .int .i64 0)] _ _ ?_ (by simp (maxSteps := 2000000) only [↓Za, ↓Zn, ↓Zr, ↓Ze, ↓Zj, ↓Zs, ↓Zg, ↓Zh, ↓Zf, ↓Zb, ↓Zc, ↓vdn, vup, Zm, Zk, Zl, Zi, Zo, List.map_cons, List.map_nil, cond_true, cond_false, aop, Zv, Zq, Zp, ev, sput, Zt, Zz, Yb, unK, Zd, Zw, Nat.reduceBEq, Nat.reduceAdd, Int.reduceBEq, Int.reduceBNe, Int.reduceLT, Zu, Ya, tup, tyf])
    clear hN10
    try clear N10
    refine Ym ?_
    refine Yl fun Q hQ => ?_
    refine Wc (γ := Nat) (fun i => i ≤ o.length) (fun i => ([(0, v), (2, .bool false), (3, x1), (4, .int .i64 0), (5, Zx (n : Nat)), (6, .int .i64 0), (7, Zx (Xe o : Nat)), (8, .int .i64 0), (9, S), (91, Zx o.length), (92, Zx (i : Nat))], X (tbM o (fuM o i)))) (fun i => o.length - i) 0 (Nat.zero_le _) (by simp (maxSteps := 2000000) only [↓Za, ↓Zn, ↓Zr, ↓Ze, ↓Zj, ↓Zs, ↓Zg, ↓Zh, ↓Zf, ↓Zb, ↓Zc, ↓vdn, vup, Zm, Zk, Zl, Zi, Zo, List.map_cons, List.map_nil, cond_true, cond_false, aop, Zv, Zq, Zp, ev, sput, Zt, Zz, Yb, unK, Zd, Zw, Nat.reduceBEq, Nat.reduceAdd, Int.reduceBEq, Int.reduceBNe, Int.reduceLT, Zu, Ya, tup, tyf, Int.natCast_zero]) rfl ?_
    rintro i hi
    refine Yl fun Q2 hQ2 => ?_
    simp only [l11_0]
    by_cases hin : (i : Int) < o.length
    · have hi' : i < o.length := by omega
      have hiT : i < (tbM o (fuM o i)).length := by rw [tbM_len]; exact hi'
      have hset : (tbM o (fuM o i)).set i ((2 ^ o.length - 1 : Nat) : Int) = tbM o (fuM o (i + 1)) := tbM_set fun x _ => by
        rw [fuM, fuM]
        by_cases h1 : x = i
        · rw [if_pos h1, if_pos (by omega)]
        · rw [if_neg h1]
          by_cases h2 : x < i
          · rw [if_pos h2, if_pos (by omega)]
          · rw [if_neg h2, if_neg (by omega)]
      refine Yc fun N11 hN11 => ?_
      simp (maxSteps := 2000000) only [s11, ↓Za, ↓Zn, ↓Zr, ↓Ze, ↓Zj, ↓Zs, ↓Zg, ↓Zh, ↓Zf, ↓Zb, ↓Zc, ↓vdn, vup, Zm, Zk, Zl, Zi, Zo, List.map_cons, List.map_nil, cond_true, cond_false, aop, Zv, Zq, Zp, ev, sput, Zt, Zz, Yb, unK, Zd, Zw, Nat.reduceBEq, Nat.reduceAdd, Int.reduceBEq, Int.reduceBNe, Int.reduceLT, Zu, Ya, tup, tyf, hin]
      refine hN11 [(0, v), (2, .bool false), (3, x1), (4, .int .i64 0), (5, Zx (n : Nat)), (6, .int .i64 0), (7, Zx (Xe o : Nat)), (8, .int .i64 0), (9, S), (91, Zx o.length), (92, Zx (i : Nat)), (93, .bool true)] _ _ ?_ (by simp (maxSteps := 2000000) only [↓Za, ↓Zn, ↓Zr, ↓Ze, ↓Zj, ↓Zs, ↓Zg, ↓Zh, ↓Zf, ↓Zb, ↓Zc, ↓vdn, vup, Zm, Zk, Zl, Zi, Zo, List.map_cons, List.map_nil, cond_true, cond_false, aop, Zv, Zq, Zp, ev, sput, Zt, Zz, Yb, unK, Zd, Zw, Nat.reduceBEq, Nat.reduceAdd, Int.reduceBEq, Int.reduceBNe, Int.reduceLT, Zu, Ya, tup, tyf])
      clear hN11
      try clear N11
      refine Yc fun N12 hN12 => ?_
      simp (maxSteps := 2000000) only [s11, ↓Za, ↓Zn, ↓Zr, ↓Ze, ↓Zj, ↓Zs, ↓Zg, ↓Zh, ↓Zf, ↓Zb, ↓Zc, ↓vdn, vup, Zm, Zk, Zl, Zi, Zo, List.map_cons, List.map_nil, cond_true, cond_false, aop, Zv, Zq, Zp, ev, sput, Zt, Zz, Yb, unK, Zd, Zw, Nat.reduceBEq, Nat.reduceAdd, Int.reduceBEq, Int.reduceBNe, Int.reduceLT, Zu, Ya, tup, tyf]
      refine hN12 [(0, v), (2, .bool false), (3, x1), (4, .int .i64 0), (5, Zx (n : Nat)), (6, .int .i64 0), (7, Zx (Xe o : Nat)), (8, .int .i64 0), (9, S), (91, Zx o.length), (92, Zx (i : Nat))] _ _ ?_ (by simp (maxSteps := 2000000) only [↓Za, ↓Zn, ↓Zr, ↓Ze, ↓Zj, ↓Zs, ↓Zg, ↓Zh, ↓Zf, ↓Zb, ↓Zc, ↓vdn, vup, Zm, Zk, Zl, Zi, Zo, List.map_cons, List.map_nil, cond_true, cond_false, aop, Zv, Zq, Zp, ev, sput, Zt, Zz, Yb, unK, Zd, Zw, Nat.reduceBEq, Nat.reduceAdd, Int.reduceBEq, Int.reduceBNe, Int.reduceLT, Zu, Ya, tup, tyf])
      clear hN12
      try clear N12
      refine Yh fun B hB => ?_
      refine Ym ?_
      refine Yc fun N13 hN13 => ?_
      simp (maxSteps := 2000000) only [s11, ↓Za, ↓Zn, ↓Zr, ↓Ze, ↓Zj, ↓Zs, ↓Zg, ↓Zh, ↓Zf, ↓Zb, ↓Zc, ↓vdn, vup, Zm, Zk, Zl, Zi, Zo, List.map_cons, List.map_nil, cond_true, cond_false, aop, Zv, Zq, Zp, ev, sput, Zt, Zz, Yb, unK, Zd, Zw, Nat.reduceBEq, Nat.reduceAdd, Int.reduceBEq, Int.reduceBNe, Int.reduceLT, Zu, Ya, tup, tyf]
      refine hN13 [(0, v), (2, .bool false), (3, x1), (4, .int .i64 0), (5, Zx (n : Nat)), (6, .int .i64 0), (7, Zx (Xe o : Nat)), (8, .int .i64 0), (9, S), (10, Zx (i : Nat)), (91, Zx o.length), (92, Zx (i : Nat))] _ _ ?_ (by simp (maxSteps := 2000000) only [↓Za, ↓Zn, ↓Zr, ↓Ze, ↓Zj, ↓Zs, ↓Zg, ↓Zh, ↓Zf, ↓Zb, ↓Zc, ↓vdn, vup, Zm, Zk, Zl, Zi, Zo, List.map_cons, List.map_nil, cond_true, cond_false, aop, Zv, Zq, Zp, ev, sput, Zt, Zz, Yb, unK, Zd, Zw, Nat.reduceBEq, Nat.reduceAdd, Int.reduceBEq, Int.reduceBNe, Int.reduceLT, Zu, Ya, tup, tyf])
      clear hN13
      try clear N13
      refine Yn ?_
      simp (maxSteps := 2000000) only [s11, ↓Za, ↓Zn, ↓Zr, ↓Ze, ↓Zj, ↓Zs, ↓Zg, ↓Zh, ↓Zf, ↓Zb, ↓Zc, ↓vdn, vup, Zm, Zk, Zl, Zi, Zo, List.map_cons, List.map_nil, cond_true, cond_false, aop, Zv, Zq, Zp, ev, sput, Zt, Zz, Yb, unK, Zd, Zw, Nat.reduceBEq, Nat.reduceAdd, Int.reduceBEq, Int.reduceBNe, Int.reduceLT, Zu, Ya, tup, tyf, (hvX (tbM o (fuM o i))).len, hsh, hsub, Int.natCast_nonneg, hidx hi', storeX (b1 (tbM o (fuM o i))) Yv hiT, hset, xset]
      refine hB [(0, v), (2, .bool false), (3, x1), (4, .int .i64 0), (5, Zx (n : Nat)), (6, .int .i64 0), (7, Zx (Xe o : Nat)), (8, .int .i64 0), (9, S), (91, Zx o.length), (92, Zx (i : Nat))] _ _ ?_ (by simp (maxSteps := 2000000) only [↓Za, ↓Zn, ↓Zr, ↓Ze, ↓Zj, ↓Zs, ↓Zg, ↓Zh, ↓Zf, ↓Zb, ↓Zc, ↓vdn, vup, Zm, Zk, Zl, Zi, Zo, List.map_cons, List.map_nil, cond_true, cond_false, aop, Zv, Zq, Zp, ev, sput, Zt, Zz, Yb, unK, Zd, Zw, Nat.reduceBEq, Nat.reduceAdd, Int.reduceBEq, Int.reduceBNe, Int.reduceLT, Zu, Ya, tup, tyf])
      clear hB
      try clear B
      refine Yn ?_
      simp (maxSteps := 2000000) only [s11, ↓Za, ↓Zn, ↓Zr, ↓Ze, ↓Zj, ↓Zs, ↓Zg, ↓Zh, ↓Zf, ↓Zb, ↓Zc, ↓vdn, vup, Zm, Zk, Zl, Zi, Zo, List.map_cons, List.map_nil, cond_true, cond_false, aop, Zv, Zq, Zp, ev, sput, Zt, Zz, Yb, unK, Zd, Zw, Nat.reduceBEq, Nat.reduceAdd, Int.reduceBEq, Int.reduceBNe, Int.reduceLT, Zu, Ya, tup, tyf, add1 (show i < 9223372036854775807 by omega)]
      exact hQ2 _ _ _ ⟨i + 1, hi', by omega, by simp (maxSteps := 2000000) only [↓Za, ↓Zn, ↓Zr, ↓Ze, ↓Zj, ↓Zs, ↓Zg, ↓Zh, ↓Zf, ↓Zb, ↓Zc, ↓vdn, vup, Zm, Zk, Zl, Zi, Zo, List.map_cons, List.map_nil, cond_true, cond_false, aop, Zv, Zq, Zp, ev, sput, Zt, Zz, Yb, unK, Zd, Zw, Nat.reduceBEq, Nat.reduceAdd, Int.reduceBEq, Int.reduceBNe, Int.reduceLT, Zu, Ya, tup, tyf], rfl⟩
    obtain rfl : i = o.length := by omega
    refine Yc fun N14 hN14 => ?_
    simp (maxSteps := 2000000) only [s11, ↓Za, ↓Zn, ↓Zr, ↓Ze, ↓Zj, ↓Zs, ↓Zg, ↓Zh, ↓Zf, ↓Zb, ↓Zc, ↓vdn, vup, Zm, Zk, Zl, Zi, Zo, List.map_cons, List.map_nil, cond_true, cond_false, aop, Zv, Zq, Zp, ev, sput, Zt, Zz, Yb, unK, Zd, Zw, Nat.reduceBEq, Nat.reduceAdd, Int.reduceBEq, Int.reduceBNe, Int.reduceLT, Zu, Ya, tup, tyf, hin]
    refine hN14 [(0, v), (2, .bool false), (3, x1), (4, .int .i64 0), (5, Zx (n : Nat)), (6, .int .i64 0), (7, Zx (Xe o : Nat)), (8, .int .i64 0), (9, S), (91, Zx o.length), (92, Zx o.length), (93, .bool false)] _ _ ?_ (by simp (maxSteps := 2000000) only [↓Za, ↓Zn, ↓Zr, ↓Ze, ↓Zj, ↓Zs, ↓Zg, ↓Zh, ↓Zf, ↓Zb, ↓Zc, ↓vdn, vup, Zm, Zk, Zl, Zi, Zo, List.map_cons, List.map_nil, cond_true, cond_false, aop, Zv, Zq, Zp, ev, sput, Zt, Zz, Yb, unK, Zd, Zw, Nat.reduceBEq, Nat.reduceAdd, Int.reduceBEq, Int.reduceBNe, Int.reduceLT, Zu, Ya, tup, tyf])
    clear hN14
    try clear N14
    refine Yc fun N15 hN15 => ?_
    simp (maxSteps := 2000000) only [s11, ↓Za, ↓Zn, ↓Zr, ↓Ze, ↓Zj, ↓Zs, ↓Zg, ↓Zh, ↓Zf, ↓Zb, ↓Zc, ↓vdn, vup, Zm, Zk, Zl, Zi, Zo, List.map_cons, List.map_nil, cond_true, cond_false, aop, Zv, Zq, Zp, ev, sput, Zt, Zz, Yb, unK, Zd, Zw, Nat.reduceBEq, Nat.reduceAdd, Int.reduceBEq, Int.reduceBNe, Int.reduceLT, Zu, Ya, tup, tyf]
    refine hQ2 _ _ _ (hQ _ _ _ ?_)
    simp (maxSteps := 2000000) only [s11, ↓Za, ↓Zn, ↓Zr, ↓Ze, ↓Zj, ↓Zs, ↓Zg, ↓Zh, ↓Zf, ↓Zb, ↓Zc, ↓vdn, vup, Zm, Zk, Zl, Zi, Zo, List.map_cons, List.map_nil, cond_true, cond_false, aop, Zv, Zq, Zp, ev, sput, Zt, Zz, Yb, unK, Zd, Zw, Nat.reduceBEq, Nat.reduceAdd, Int.reduceBEq, Int.reduceBNe, Int.reduceLT, Zu, Ya, tup, tyf, if_true]
    obtain ⟨q, hq⟩ : ∃ q, realL o = q := ⟨_, rfl⟩
    rw [hq] at hn
    have hqk : ∀ k ∈ q, k < cn o := hq ▸ df.lt
    rw [tbM_congr (f := fuM o o.length) (g := cmF o (q.take 0)) fun x _ => rfl]
    refine hZ [(0, v), (2, .bool false), (3, x1), (4, .int .i64 0), (5, Zx (n : Nat)), (6, .int .i64 0), (7, Zx (Xe o : Nat)), (8, .int .i64 0), (9, S)] _ _ ?_ (by simp (maxSteps := 2000000) only [↓Za, ↓Zn, ↓Zr, ↓Ze, ↓Zj, ↓Zs, ↓Zg, ↓Zh, ↓Zf, ↓Zb, ↓Zc, ↓vdn, vup, Zm, Zk, Zl, Zi, Zo, List.map_cons, List.map_nil, cond_true, cond_false, aop, Zv, Zq, Zp, ev, sput, Zt, Zz, Yb, unK, Zd, Zw, Nat.reduceBEq, Nat.reduceAdd, Int.reduceBEq, Int.reduceBNe, Int.reduceLT, Zu, Ya, tup, tyf])
    clear hZ
    try clear Z
    clear hQ hQ2
    refine Yh fun Z hZ => ?_
    refine Yc fun N16 hN16 => ?_
    simp (maxSteps := 2000000) only [s11, ↓Za, ↓Zn, ↓Zr, ↓Ze, ↓Zj, ↓Zs, ↓Zg, ↓Zh, ↓Zf, ↓Zb, ↓Zc, ↓vdn, vup, Zm, Zk, Zl, Zi, Zo, List.map_cons, List.map_nil, cond_true, cond_false, aop, Zv, Zq, Zp, ev, sput, Zt, Zz, Yb, unK, Zd, Zw, Nat.reduceBEq, Nat.reduceAdd, Int.reduceBEq, Int.reduceBNe, Int.reduceLT, Zu, Ya, tup, tyf, (hrX (tbM o (cmF o (q.take 0)))).len, hLL]
    refine hN16 [(0, v), (2, .bool false), (3, x1), (4, .int .i64 0), (5, Zx (n : Nat)), (6, .int .i64 0), (7, Zx (Xe o : Nat)), (8, .int .i64 0), (9, S), (103, x1), (104, Zx (n : Nat)), (105, .int .i64 0)] _ _ ?_ (by simp (maxSteps := 2000000) only [↓Za, ↓Zn, ↓Zr, ↓Ze, ↓Zj, ↓Zs, ↓Zg, ↓Zh, ↓Zf, ↓Zb, ↓Zc, ↓vdn, vup, Zm, Zk, Zl, Zi, Zo, List.map_cons, List.map_nil, cond_true, cond_false, aop, Zv, Zq, Zp, ev, sput, Zt, Zz, Yb, unK, Zd, Zw, Nat.reduceBEq, Nat.reduceAdd, Int.reduceBEq, Int.reduceBNe, Int.reduceLT, Zu, Ya, tup, tyf])
    clear hN16
    try clear N16
    refine Ym ?_
    refine Yl fun Q hQ => ?_
    refine Wc (γ := Nat) (fun i => i ≤ n) (fun i => ([(0, v), (2, .bool false), (3, x1), (4, .int .i64 0), (5, Zx (n : Nat)), (6, .int .i64 0), (7, Zx (Xe o : Nat)), (8, .int .i64 0), (9, S), (103, x1), (104, Zx (n : Nat)), (105, Zx (i : Nat))], X (tbM o (cmF o (q.take i))))) (fun i => n - i) 0 (Nat.zero_le _) (by simp (maxSteps := 2000000) only [↓Za, ↓Zn, ↓Zr, ↓Ze, ↓Zj, ↓Zs, ↓Zg, ↓Zh, ↓Zf, ↓Zb, ↓Zc, ↓vdn, vup, Zm, Zk, Zl, Zi, Zo, List.map_cons, List.map_nil, cond_true, cond_false, aop, Zv, Zq, Zp, ev, sput, Zt, Zz, Yb, unK, Zd, Zw, Nat.reduceBEq, Nat.reduceAdd, Int.reduceBEq, Int.reduceBNe, Int.reduceLT, Zu, Ya, tup, tyf, Int.natCast_zero]) rfl ?_
    rintro i hi
    refine Yl fun Q2 hQ2 => ?_
    simp only [l11_2]
    by_cases hin2 : (i : Int) < n
    · have hi' : i < n := by omega
      have hiq : i < q.length := by omega
      have hiL : i < (realLL o).length := by omega
      obtain ⟨ws, w1, w2⟩ := hrH
      obtain ⟨w, hwd⟩ : ∃ w, w = ws.getD i undef := ⟨_, rfl⟩
      obtain ⟨k, hk⟩ : ∃ k, q.getD i 0 = k := ⟨_, rfl⟩
      have hkN : k < cn o := hqk k (hk ▸ getD_memN hiq)
      have lf := Ww ho hkN
      have hll : (lin o k).length = o.length := by rw [lf.pm.length_eq, List.length_range]
      have hlg : (realLL o).getD i [] = Wz (lin o k) := by
        rw [realLL, hq, ← hk, List.getD, List.getElem?_map, List.getD, List.getElem?_eq_getElem hiq]; rfl
      have hw : OwnSl 3 H w (Wz (lin o k)) := by
        have := w2.get undef [] hiL
        rw [hlg, ← hwd] at this; exact this
      have hiW : i < ws.length := by rw [w2.len]; exact hiL
      have hld : ∀ T {K : Value → Prop}, Wb prog (X T) 22 (elemP x1 1 i) K = K w := fun T {K} => by rw [(w1.ext (xE T)).load Xw hiW, hwd]
      have hwX : ∀ T, IntSl (X T) w (Wz (lin o k)) := fun T => Wm hw.int (xE T)
      have hnn2 : (((o.length : Nat) : Int) != ((o.length : Nat) : Int)) = false := by simp
      have hpre : q.take (i + 1) = q.take i ++ [k] := by
        rw [List.take_succ, List.getElem?_eq_getElem hiq, Option.toList_some, ← hk, List.getD, List.getElem?_eq_getElem hiq]; rfl
      refine Yc fun N17 hN17 => ?_
      simp (maxSteps := 2000000) only [s11, ↓Za, ↓Zn, ↓Zr, ↓Ze, ↓Zj, ↓Zs, ↓Zg, ↓Zh, ↓Zf, ↓Zb, ↓Zc, ↓vdn, vup, Zm, Zk, Zl, Zi, Zo, List.map_cons, List.map_nil, cond_true, cond_false, aop, Zv, Zq, Zp, ev, sput, Zt, Zz, Yb, unK, Zd, Zw, Nat.reduceBEq, Nat.reduceAdd, Int.reduceBEq, Int.reduceBNe, Int.reduceLT, Zu, Ya, tup, tyf, hin2]
      refine hN17 [(0, v), (2, .bool false), (3, x1), (4, .int .i64 0), (5, Zx (n : Nat)), (6, .int .i64 0), (7, Zx (Xe o : Nat)), (8, .int .i64 0), (9, S), (103, x1), (104, Zx (n : Nat)), (105, Zx (i : Nat)), (106, .bool true)] _ _ ?_ (by simp (maxSteps := 2000000) only [↓Za, ↓Zn, ↓Zr, ↓Ze, ↓Zj, ↓Zs, ↓Zg, ↓Zh, ↓Zf, ↓Zb, ↓Zc, ↓vdn, vup, Zm, Zk, Zl, Zi, Zo, List.map_cons, List.map_nil, cond_true, cond_false, aop, Zv, Zq, Zp, ev, sput, Zt, Zz, Yb, unK, Zd, Zw, Nat.reduceBEq, Nat.reduceAdd, Int.reduceBEq, Int.reduceBNe, Int.reduceLT, Zu, Ya, tup, tyf])
      clear hN17
      try clear N17
      refine Yc fun N18 hN18 => ?_
      simp (maxSteps := 2000000) only [s11, ↓Za, ↓Zn, ↓Zr, ↓Ze, ↓Zj, ↓Zs, ↓Zg, ↓Zh, ↓Zf, ↓Zb, ↓Zc, ↓vdn, vup, Zm, Zk, Zl, Zi, Zo, List.map_cons, List.map_nil, cond_true, cond_false, aop, Zv, Zq, Zp, ev, sput, Zt, Zz, Yb, unK, Zd, Zw, Nat.reduceBEq, Nat.reduceAdd, Int.reduceBEq, Int.reduceBNe, Int.reduceLT, Zu, Ya, tup, tyf]
      refine hN18 [(0, v), (2, .bool false), (3, x1), (4, .int .i64 0), (5, Zx (n : Nat)), (6, .int .i64 0), (7, Zx (Xe o : Nat)), (8, .int .i64 0), (9, S), (103, x1), (104, Zx (n : Nat)), (105, Zx (i : Nat))] _ _ ?_ (by simp (maxSteps := 2000000) only [↓Za, ↓Zn, ↓Zr, ↓Ze, ↓Zj, ↓Zs, ↓Zg, ↓Zh, ↓Zf, ↓Zb, ↓Zc, ↓vdn, vup, Zm, Zk, Zl, Zi, Zo, List.map_cons, List.map_nil, cond_true, cond_false, aop, Zv, Zq, Zp, ev, sput, Zt, Zz, Yb, unK, Zd, Zw, Nat.reduceBEq, Nat.reduceAdd, Int.reduceBEq, Int.reduceBNe, Int.reduceLT, Zu, Ya, tup, tyf])
      clear hN18
      try clear N18
      refine Yh fun B hB => ?_
      refine Ym ?_
      refine Yc fun N19 hN19 => ?_
      simp (maxSteps := 2000000) only [s11, ↓Za, ↓Zn, ↓Zr, ↓Ze, ↓Zj, ↓Zs, ↓Zg, ↓Zh, ↓Zf, ↓Zb, ↓Zc, ↓vdn, vup, Zm, Zk, Zl, Zi, Zo, List.map_cons, List.map_nil, cond_true, cond_false, aop, Zv, Zq, Zp, ev, sput, Zt, Zz, Yb, unK, Zd, Zw, Nat.reduceBEq, Nat.reduceAdd, Int.reduceBEq, Int.reduceBNe, Int.reduceLT, Zu, Ya, tup, tyf, w1.idx el_45 esz_22 hiW, hld (tbM o (cmF o (q.take i)))]
      refine hN19 [(0, v), (2, .bool false), (3, x1), (4, .int .i64 0), (5, Zx (n : Nat)), (6, .int .i64 0), (7, Zx (Xe o : Nat)), (8, .int .i64 0), (9, S), (12, w), (103, x1), (104, Zx (n : Nat)), (105, Zx (i : Nat))] _ _ ?_ (by simp (maxSteps := 2000000) only [↓Za, ↓Zn, ↓Zr, ↓Ze, ↓Zj, ↓Zs, ↓Zg, ↓Zh, ↓Zf, ↓Zb, ↓Zc, ↓vdn, vup, Zm, Zk, Zl, Zi, Zo, List.map_cons, List.map_nil, cond_true, cond_false, aop, Zv, Zq, Zp, ev, sput, Zt, Zz, Yb, unK, Zd, Zw, Nat.reduceBEq, Nat.reduceAdd, Int.reduceBEq, Int.reduceBNe, Int.reduceLT, Zu, Ya, tup, tyf])
      clear hN19
      try clear N19
      refine Yc fun N20 hN20 => ?_
      simp (maxSteps := 2000000) only [s11, ↓Za, ↓Zn, ↓Zr, ↓Ze, ↓Zj, ↓Zs, ↓Zg, ↓Zh, ↓Zf, ↓Zb, ↓Zc, ↓vdn, vup, Zm, Zk, Zl, Zi, Zo, List.map_cons, List.map_nil, cond_true, cond_false, aop, Zv, Zq, Zp, ev, sput, Zt, Zz, Yb, unK, Zd, Zw, Nat.reduceBEq, Nat.reduceAdd, Int.reduceBEq, Int.reduceBNe, Int.reduceLT, Zu, Ya, tup, tyf]
      refine hN20 [(0, v), (2, .bool false), (3, x1), (4, .int .i64 0), (5, Zx (n : Nat)), (6, .int .i64 0), (7, Zx (Xe o : Nat)), (8, .int .i64 0), (9, S), (12, w), (13, .int .i64 0), (103, x1), (104, Zx (n : Nat)), (105, Zx (i : Nat))] _ _ ?_ (by simp (maxSteps := 2000000) only [↓Za, ↓Zn, ↓Zr, ↓Ze, ↓Zj, ↓Zs, ↓Zg, ↓Zh, ↓Zf, ↓Zb, ↓Zc, ↓vdn, vup, Zm, Zk, Zl, Zi, Zo, List.map_cons, List.map_nil, cond_true, cond_false, aop, Zv, Zq, Zp, ev, sput, Zt, Zz, Yb, unK, Zd, Zw, Nat.reduceBEq, Nat.reduceAdd, Int.reduceBEq, Int.reduceBNe, Int.reduceLT, Zu, Ya, tup, tyf])
      clear hN20
      try clear N20
      refine Yh fun M hM => ?_
      refine Yc fun N21 hN21 => ?_
      simp (maxSteps := 2000000) only [s11, ↓Za, ↓Zn, ↓Zr, ↓Ze, ↓Zj, ↓Zs, ↓Zg, ↓Zh, ↓Zf, ↓Zb, ↓Zc, ↓vdn, vup, Zm, Zk, Zl, Zi, Zo, List.map_cons, List.map_nil, cond_true, cond_false, aop, Zv, Zq, Zp, ev, sput, Zt, Zz, Yb, unK, Zd, Zw, Nat.reduceBEq, Nat.reduceAdd, Int.reduceBEq, Int.reduceBNe, Int.reduceLT, Zu, Ya, tup, tyf, hw.int.len, Vj, hll, (hvX (tbM o (cmF o (q.take i)))).len, hnn2]
      refine hN21 [(0, v), (2, .bool false), (3, x1), (4, .int .i64 0), (5, Zx (n : Nat)), (6, .int .i64 0), (7, Zx (Xe o : Nat)), (8, .int .i64 0), (9, S), (12, w), (13, .int .i64 0), (103, x1), (104, Zx (n : Nat)), (105, Zx (i : Nat)), (113, .bool false)] _ _ ?_ (by simp (maxSteps := 2000000) only [↓Za, ↓Zn, ↓Zr, ↓Ze, ↓Zj, ↓Zs, ↓Zg, ↓Zh, ↓Zf, ↓Zb, ↓Zc, ↓vdn, vup, Zm, Zk, Zl, Zi, Zo, List.map_cons, List.map_nil, cond_true, cond_false, aop, Zv, Zq, Zp, ev, sput, Zt, Zz, Yb, unK, Zd, Zw, Nat.reduceBEq, Nat.reduceAdd, Int.reduceBEq, Int.reduceBNe, Int.reduceLT, Zu, Ya, tup, tyf])
      clear hN21
      try clear N21
      refine Xt rfl ?_
      refine Yn ?_
      simp (maxSteps := 2000000) only [s11, ↓Za, ↓Zn, ↓Zr, ↓Ze, ↓Zj, ↓Zs, ↓Zg, ↓Zh, ↓Zf, ↓Zb, ↓Zc, ↓vdn, vup, Zm, Zk, Zl, Zi, Zo, List.map_cons, List.map_nil, cond_true, cond_false, aop, Zv, Zq, Zp, ev, sput, Zt, Zz, Yb, unK, Zd, Zw, Nat.reduceBEq, Nat.reduceAdd, Int.reduceBEq, Int.reduceBNe, Int.reduceLT, Zu, Ya, tup, tyf]
      refine hM [(0, v), (2, .bool false), (3, x1), (4, .int .i64 0), (5, Zx (n : Nat)), (6, .int .i64 0), (7, Zx (Xe o : Nat)), (8, .int .i64 0), (9, S), (12, w), (13, .int .i64 0), (103, x1), (104, Zx (n : Nat)), (105, Zx (i : Nat))] _ _ ?_ (by simp (maxSteps := 2000000) only [↓Za, ↓Zn, ↓Zr, ↓Ze, ↓Zj, ↓Zs, ↓Zg, ↓Zh, ↓Zf, ↓Zb, ↓Zc, ↓vdn, vup, Zm, Zk, Zl, Zi, Zo, List.map_cons, List.map_nil, cond_true, cond_false, aop, Zv, Zq, Zp, ev, sput, Zt, Zz, Yb, unK, Zd, Zw, Nat.reduceBEq, Nat.reduceAdd, Int.reduceBEq, Int.reduceBNe, Int.reduceLT, Zu, Ya, tup, tyf])
      clear hM
      try clear M
      refine Yc fun N22 hN22 => ?_
      simp (maxSteps := 2000000) only [s11, ↓Za, ↓Zn, ↓Zr, ↓Ze, ↓Zj, ↓Zs, ↓Zg, ↓Zh, ↓Zf, ↓Zb, ↓Zc, ↓vdn, vup, Zm, Zk, Zl, Zi, Zo, List.map_cons, List.map_nil, cond_true, cond_false, aop, Zv, Zq, Zp, ev, sput, Zt, Zz, Yb, unK, Zd, Zw, Nat.reduceBEq, Nat.reduceAdd, Int.reduceBEq, Int.reduceBNe, Int.reduceLT, Zu, Ya, tup, tyf, hw.int.len, Vj, hll]
      refine hN22 [(0, v), (2, .bool false), (3, x1), (4, .int .i64 0), (5, Zx (n : Nat)), (6, .int .i64 0), (7, Zx (Xe o : Nat)), (8, .int .i64 0), (9, S), (12, w), (13, .int .i64 0), (103, x1), (104, Zx (n : Nat)), (105, Zx (i : Nat)), (114, w), (115, Zx o.length), (116, .int .i64 0)] _ _ ?_ (by simp (maxSteps := 2000000) only [↓Za, ↓Zn, ↓Zr, ↓Ze, ↓Zj, ↓Zs, ↓Zg, ↓Zh, ↓Zf, ↓Zb, ↓Zc, ↓vdn, vup, Zm, Zk, Zl, Zi, Zo, List.map_cons, List.map_nil, cond_true, cond_false, aop, Zv, Zq, Zp, ev, sput, Zt, Zz, Yb, unK, Zd, Zw, Nat.reduceBEq, Nat.reduceAdd, Int.reduceBEq, Int.reduceBNe, Int.reduceLT, Zu, Ya, tup, tyf])
      clear hN22
      try clear N22
      refine Ym ?_
      refine Yl fun Q3 hQ3 => ?_
      refine Wc (γ := Nat) (fun m => m ≤ o.length) (fun m => ([(0, v), (2, .bool false), (3, x1), (4, .int .i64 0), (5, Zx (n : Nat)), (6, .int .i64 0), (7, Zx (Xe o : Nat)), (8, .int .i64 0), (9, S), (12, w), (13, Zx (msk ((lin o k).take m) : Nat)), (103, x1), (104, Zx (n : Nat)), (105, Zx (i : Nat)), (114, w), (115, Zx o.length), (116, Zx (m : Nat))], X (tbM o (bsM o (q.take i) k m)))) (fun m => o.length - m) 0 (Nat.zero_le _) (by simp (maxSteps := 2000000) only [↓Za, ↓Zn, ↓Zr, ↓Ze, ↓Zj, ↓Zs, ↓Zg, ↓Zh, ↓Zf, ↓Zb, ↓Zc, ↓vdn, vup, Zm, Zk, Zl, Zi, Zo, List.map_cons, List.map_nil, cond_true, cond_false, aop, Zv, Zq, Zp, ev, sput, Zt, Zz, Yb, unK, Zd, Zw, Nat.reduceBEq, Nat.reduceAdd, Int.reduceBEq, Int.reduceBNe, Int.reduceLT, Zu, Ya, tup, tyf, Int.natCast_zero, List.take_zero, show msk [] = 0 from rfl]) (by rw [tbM_congr (f := bsM o (q.take i) k 0) (g := cmF o (q.take i)) fun x _ => bsM_zero o (q.take i) k x]) ?_
      rintro m hm
      refine Yl fun Q4 hQ4 => ?_
      simp only [l11_1]
      by_cases hmin : (m : Int) < o.length
      · have hm' : m < o.length := by omega
        have hml : m < (lin o k).length := by omega
        have hmc : m < (Wz (lin o k)).length := by rw [Vj]; omega
        obtain ⟨e, he⟩ : ∃ e, (lin o k).getD m 0 = e := ⟨_, rfl⟩
        have hen : e < o.length := List.mem_range.1 (lf.pm.mem_iff.1 (he ▸ (by rw [getD_at hml]; exact List.getElem_mem hml)))
        have hneg : ¬ ((e : Int) < 0) := by omega
        have hge : ¬ ((e : Int) ≥ o.length) := by omega
        have hmk64 : ∀ m, msk ((lin o k).take m) < 64 := fun m => msk_lt6 fun x hx => by
          have := List.mem_range.1 (lf.pm.mem_iff.1 (List.mem_of_mem_take hx)); omega
        have hbit : (msk ((lin o k).take m)).testBit e = false := by
          rw [Bool.eq_false_iff, ne_eq, msk_bit]
          intro h
          obtain ⟨a, ha, hea⟩ := List.mem_iff_getElem.1 h
          rw [List.getElem_take] at hea
          rw [List.length_take] at ha
          have h3 := idx_at lf.nd (k := a) (by omega)
          rw [getD_at (by omega), hea] at h3
          have h4 := idx_at lf.nd hml
          rw [he] at h4
          omega
        have htst : Wd .and .i64 (shrV .i64 ((msk ((lin o k).take m) : Nat) : Int) e) 1 = 0 := by
          have := @testV (msk ((lin o k).take m)) e (by have := hmk64 m; omega)
          rw [hbit] at this; exact this
        have hor : Wd .or .i64 ((msk ((lin o k).take m) : Nat) : Int) (2 ^ e) = ((msk ((lin o k).take (m + 1)) : Nat) : Int) := by
          have h1 := hmk64 m
          have h2 : (2 : Nat) ^ e ≤ 2 ^ 6 := Nat.pow_le_pow_right (by decide) (by omega)
          have := bitsV_or (a := msk ((lin o k).take m)) (b := 2 ^ e) (by omega) (by omega)
          rw [Wy] at this
          rw [this, msk_take hml, he]
        have hset : (tbM o (bsM o (q.take i) k m)).set e ((Wj (bsM o (q.take i) k m e) (msk ((lin o k).take (m + 1))) : Nat) : Int) = tbM o (bsM o (q.take i) k (m + 1)) := tbM_set fun x hx => by
          rw [bsM_set ho hkN hm' hx, he]
        have hand : Wd .andNot .i64 ((bsM o (q.take i) k m e : Nat) : Int) ((msk ((lin o k).take (m + 1)) : Nat) : Int) = ((Wj (bsM o (q.take i) k m e) (msk ((lin o k).take (m + 1))) : Nat) : Int) := by
          have h1 := bsM_lt (o := o) (q.take i) k m e
          have h2 := hmk64 (m + 1)
          exact Wu (by omega) (by omega)
        have heT : e < (tbM o (bsM o (q.take i) k m)).length := by rw [tbM_len]; exact hen
        refine Yc fun N23 hN23 => ?_
        simp (maxSteps := 2000000) only [s11, ↓Za, ↓Zn, ↓Zr, ↓Ze, ↓Zj, ↓Zs, ↓Zg, ↓Zh, ↓Zf, ↓Zb, ↓Zc, ↓vdn, vup, Zm, Zk, Zl, Zi, Zo, List.map_cons, List.map_nil, cond_true, cond_false, aop, Zv, Zq, Zp, ev, sput, Zt, Zz, Yb, unK, Zd, Zw, Nat.reduceBEq, Nat.reduceAdd, Int.reduceBEq, Int.reduceBNe, Int.reduceLT, Zu, Ya, tup, tyf, hmin]
        refine hN23 [(0, v), (2, .bool false), (3, x1), (4, .int .i64 0), (5, Zx (n : Nat)), (6, .int .i64 0), (7, Zx (Xe o : Nat)), (8, .int .i64 0), (9, S), (12, w), (13, Zx (msk ((lin o k).take m) : Nat)), (103, x1), (104, Zx (n : Nat)), (105, Zx (i : Nat)), (114, w), (115, Zx o.length), (116, Zx (m : Nat)), (117, .bool true)] _ _ ?_ (by simp (maxSteps := 2000000) only [↓Za, ↓Zn, ↓Zr, ↓Ze, ↓Zj, ↓Zs, ↓Zg, ↓Zh, ↓Zf, ↓Zb, ↓Zc, ↓vdn, vup, Zm, Zk, Zl, Zi, Zo, List.map_cons, List.map_nil, cond_true, cond_false, aop, Zv, Zq, Zp, ev, sput, Zt, Zz, Yb, unK, Zd, Zw, Nat.reduceBEq, Nat.reduceAdd, Int.reduceBEq, Int.reduceBNe, Int.reduceLT, Zu, Ya, tup, tyf])
        clear hN23
        try clear N23
        refine Yc fun N24 hN24 => ?_
        simp (maxSteps := 2000000) only [s11, ↓Za, ↓Zn, ↓Zr, ↓Ze, ↓Zj, ↓Zs, ↓Zg, ↓Zh, ↓Zf, ↓Zb, ↓Zc, ↓vdn, vup, Zm, Zk, Zl, Zi, Zo, List.map_cons, List.map_nil, cond_true, cond_false, aop, Zv, Zq, Zp, ev, sput, Zt, Zz, Yb, unK, Zd, Zw, Nat.reduceBEq, Nat.reduceAdd, Int.reduceBEq, Int.reduceBNe, Int.reduceLT, Zu, Ya, tup, tyf]
        refine hN24 [(0, v), (2, .bool false), (3, x1), (4, .int .i64 0), (5, Zx (n : Nat)), (6, .int .i64 0), (7, Zx (Xe o : Nat)), (8, .int .i64 0), (9, S), (12, w), (13, Zx (msk ((lin o k).take m) : Nat)), (103, x1), (104, Zx (n : Nat)), (105, Zx (i : Nat)), (114, w), (115, Zx o.length), (116, Zx (m : Nat))] _ _ ?_ (by simp (maxSteps := 2000000) only [↓Za, ↓Zn, ↓Zr, ↓Ze, ↓Zj, ↓Zs, ↓Zg, ↓Zh, ↓Zf, ↓Zb, ↓Zc, ↓vdn, vup, Zm, Zk, Zl, Zi, Zo, List.map_cons, List.map_nil, cond_true, cond_false, aop, Zv, Zq, Zp, ev, sput, Zt, Zz, Yb, unK, Zd, Zw, Nat.reduceBEq, Nat.reduceAdd, Int.reduceBEq, Int.reduceBNe, Int.reduceLT, Zu, Ya, tup, tyf])
        clear hN24
        try clear N24
        refine Yh fun D hD => ?_
        refine Ym ?_
        refine Yc fun N25 hN25 => ?_
        simp (maxSteps := 2000000) only [s11, ↓Za, ↓Zn, ↓Zr, ↓Ze, ↓Zj, ↓Zs, ↓Zg, ↓Zh, ↓Zf, ↓Zb, ↓Zc, ↓vdn, vup, Zm, Zk, Zl, Zi, Zo, List.map_cons, List.map_nil, cond_true, cond_false, aop, Zv, Zq, Zp, ev, sput, Zt, Zz, Yb, unK, Zd, Zw, Nat.reduceBEq, Nat.reduceAdd, Int.reduceBEq, Int.reduceBNe, Int.reduceLT, Zu, Ya, tup, tyf, hw.int.idx Wq Xx hmc, (hwX (tbM o (bsM o (q.take i) k m))).load Yv hmc, castN_get, he]
        refine hN25 [(0, v), (2, .bool false), (3, x1), (4, .int .i64 0), (5, Zx (n : Nat)), (6, .int .i64 0), (7, Zx (Xe o : Nat)), (8, .int .i64 0), (9, S), (12, w), (13, Zx (msk ((lin o k).take m) : Nat)), (15, Zx (e : Nat)), (103, x1), (104, Zx (n : Nat)), (105, Zx (i : Nat)), (114, w), (115, Zx o.length), (116, Zx (m : Nat))] _ _ ?_ (by simp (maxSteps := 2000000) only [↓Za, ↓Zn, ↓Zr, ↓Ze, ↓Zj, ↓Zs, ↓Zg, ↓Zh, ↓Zf, ↓Zb, ↓Zc, ↓vdn, vup, Zm, Zk, Zl, Zi, Zo, List.map_cons, List.map_nil, cond_true, cond_false, aop, Zv, Zq, Zp, ev, sput, Zt, Zz, Yb, unK, Zd, Zw, Nat.reduceBEq, Nat.reduceAdd, Int.reduceBEq, Int.reduceBNe, Int.reduceLT, Zu, Ya, tup, tyf])
        clear hN25
        try clear N25
        refine Yh fun M hM => ?_
        refine Yc fun N26 hN26 => ?_
        simp (maxSteps := 2000000) only [s11, ↓Za, ↓Zn, ↓Zr, ↓Ze, ↓Zj, ↓Zs, ↓Zg, ↓Zh, ↓Zf, ↓Zb, ↓Zc, ↓vdn, vup, Zm, Zk, Zl, Zi, Zo, List.map_cons, List.map_nil, cond_true, cond_false, aop, Zv, Zq, Zp, ev, sput, Zt, Zz, Yb, unK, Zd, Zw, Nat.reduceBEq, Nat.reduceAdd, Int.reduceBEq, Int.reduceBNe, Int.reduceLT, Zu, Ya, tup, tyf, hneg, (hvX (tbM o (bsM o (q.take i) k m))).len, hge, Int.natCast_nonneg, htst, show ((0 : Int) == 1) = false from rfl]
        refine hN26 [(0, v), (2, .bool false), (3, x1), (4, .int .i64 0), (5, Zx (n : Nat)), (6, .int .i64 0), (7, Zx (Xe o : Nat)), (8, .int .i64 0), (9, S), (12, w), (13, Zx (msk ((lin o k).take m) : Nat)), (15, Zx (e : Nat)), (103, x1), (104, Zx (n : Nat)), (105, Zx (i : Nat)), (114, w), (115, Zx o.length), (116, Zx (m : Nat)), (134, .bool false)] _ _ ?_ (by simp (maxSteps := 2000000) only [↓Za, ↓Zn, ↓Zr, ↓Ze, ↓Zj, ↓Zs, ↓Zg, ↓Zh, ↓Zf, ↓Zb, ↓Zc, ↓vdn, vup, Zm, Zk, Zl, Zi, Zo, List.map_cons, List.map_nil, cond_true, cond_false, aop, Zv, Zq, Zp, ev, sput, Zt, Zz, Yb, unK, Zd, Zw, Nat.reduceBEq, Nat.reduceAdd, Int.reduceBEq, Int.reduceBNe, Int.reduceLT, Zu, Ya, tup, tyf])
        clear hN26
        try clear N26
        refine Xt rfl ?_
        refine Yn ?_
        simp (maxSteps := 2000000) only [s11, ↓Za, ↓Zn, ↓Zr, ↓Ze, ↓Zj, ↓Zs, ↓Zg, ↓Zh, ↓Zf, ↓Zb, ↓Zc, ↓vdn, vup, Zm, Zk, Zl, Zi, Zo, List.map_cons, List.map_nil, cond_true, cond_false, aop, Zv, Zq, Zp, ev, sput, Zt, Zz, Yb, unK, Zd, Zw, Nat.reduceBEq, Nat.reduceAdd, Int.reduceBEq, Int.reduceBNe, Int.reduceLT, Zu, Ya, tup, tyf]
        refine hM [(0, v), (2, .bool false), (3, x1), (4, .int .i64 0), (5, Zx (n : Nat)), (6, .int .i64 0), (7, Zx (Xe o : Nat)), (8, .int .i64 0), (9, S), (12, w), (13, Zx (msk ((lin o k).take m) : Nat)), (15, Zx (e : Nat)), (103, x1), (104, Zx (n : Nat)), (105, Zx (i : Nat)), (114, w), (115, Zx o.length), (116, Zx (m : Nat))] _ _ ?_ (by simp (maxSteps := 2000000) only [↓Za, ↓Zn, ↓Zr, ↓Ze, ↓Zj, ↓Zs, ↓Zg, ↓Zh, ↓Zf, ↓Zb, ↓Zc, ↓vdn, vup, Zm, Zk, Zl, Zi, Zo, List.map_cons, List.map_nil, cond_true, cond_false, aop, Zv, Zq, Zp, ev, sput, Zt, Zz, Yb, unK, Zd, Zw, Nat.reduceBEq, Nat.reduceAdd, Int.reduceBEq, Int.reduceBNe, Int.reduceLT, Zu, Ya, tup, tyf])
        clear hM
        try clear M
        refine Yc fun N27 hN27 => ?_
        simp (maxSteps := 2000000) only [s11, ↓Za, ↓Zn, ↓Zr, ↓Ze, ↓Zj, ↓Zs, ↓Zg, ↓Zh, ↓Zf, ↓Zb, ↓Zc, ↓vdn, vup, Zm, Zk, Zl, Zi, Zo, List.map_cons, List.map_nil, cond_true, cond_false, aop, Zv, Zq, Zp, ev, sput, Zt, Zz, Yb, unK, Zd, Zw, Nat.reduceBEq, Nat.reduceAdd, Int.reduceBEq, Int.reduceBNe, Int.reduceLT, Zu, Ya, tup, tyf, shl1 (show e ≤ 62 by omega), hor, Int.natCast_nonneg]
        refine hN27 [(0, v), (2, .bool false), (3, x1), (4, .int .i64 0), (5, Zx (n : Nat)), (6, .int .i64 0), (7, Zx (Xe o : Nat)), (8, .int .i64 0), (9, S), (12, w), (13, Zx (msk ((lin o k).take (m + 1)) : Nat)), (15, Zx (e : Nat)), (103, x1), (104, Zx (n : Nat)), (105, Zx (i : Nat)), (114, w), (115, Zx o.length), (116, Zx (m : Nat))] _ _ ?_ (by simp (maxSteps := 2000000) only [↓Za, ↓Zn, ↓Zr, ↓Ze, ↓Zj, ↓Zs, ↓Zg, ↓Zh, ↓Zf, ↓Zb, ↓Zc, ↓vdn, vup, Zm, Zk, Zl, Zi, Zo, List.map_cons, List.map_nil, cond_true, cond_false, aop, Zv, Zq, Zp, ev, sput, Zt, Zz, Yb, unK, Zd, Zw, Nat.reduceBEq, Nat.reduceAdd, Int.reduceBEq, Int.reduceBNe, Int.reduceLT, Zu, Ya, tup, tyf])
        clear hN27
        try clear N27
        refine Yn ?_
        simp (maxSteps := 2000000) only [s11, ↓Za, ↓Zn, ↓Zr, ↓Ze, ↓Zj, ↓Zs, ↓Zg, ↓Zh, ↓Zf, ↓Zb, ↓Zc, ↓vdn, vup, Zm, Zk, Zl, Zi, Zo, List.map_cons, List.map_nil, cond_true, cond_false, aop, Zv, Zq, Zp, ev, sput, Zt, Zz, Yb, unK, Zd, Zw, Nat.reduceBEq, Nat.reduceAdd, Int.reduceBEq, Int.reduceBNe, Int.reduceLT, Zu, Ya, tup, tyf, hidx hen, loadX (b1 (tbM o (bsM o (q.take i) k m))) Yv heT, tbM_get hen, hand, storeX (b1 (tbM o (bsM o (q.take i) k m))) Yv heT, hset, xset]
        refine hD [(0, v), (2, .bool false), (3, x1), (4, .int .i64 0), (5, Zx (n : Nat)), (6, .int .i64 0), (7, Zx (Xe o : Nat)), (8, .int .i64 0), (9, S), (12, w), (13, Zx (msk ((lin o k).take (m + 1)) : Nat)), (103, x1), (104, Zx (n : Nat)), (105, Zx (i : Nat)), (114, w), (115, Zx o.length), (116, Zx (m : Nat))] _ _ ?_ (by simp (maxSteps := 2000000) only [↓Za, ↓Zn, ↓Zr, ↓Ze, ↓Zj, ↓Zs, ↓Zg, ↓Zh, ↓Zf, ↓Zb, ↓Zc, ↓vdn, vup, Zm, Zk, Zl, Zi, Zo, List.map_cons, List.map_nil, cond_true, cond_false, aop, Zv, Zq, Zp, ev, sput, Zt, Zz, Yb, unK, Zd, Zw, Nat.reduceBEq, Nat.reduceAdd, Int.reduceBEq, Int.reduceBNe, Int.reduceLT, Zu, Ya, tup, tyf])
        clear hD
        try clear D
        refine Yn ?_
        simp (maxSteps := 2000000) only [s11, ↓Za, ↓Zn, ↓Zr, ↓Ze, ↓Zj, ↓Zs, ↓Zg, ↓Zh, ↓Zf, ↓Zb, ↓Zc, ↓vdn, vup, Zm, Zk, Zl, Zi, Zo, List.map_cons, List.map_nil, cond_true, cond_false, aop, Zv, Zq, Zp, ev, sput, Zt, Zz, Yb, unK, Zd, Zw, Nat.reduceBEq, Nat.reduceAdd, Int.reduceBEq, Int.reduceBNe, Int.reduceLT, Zu, Ya, tup, tyf, add1 (show m < 9223372036854775807 by omega)]
        exact hQ4 _ _ _ ⟨m + 1, hm', by omega, by simp (maxSteps := 2000000) only [↓Za, ↓Zn, ↓Zr, ↓Ze, ↓Zj, ↓Zs, ↓Zg, ↓Zh, ↓Zf, ↓Zb, ↓Zc, ↓vdn, vup, Zm, Zk, Zl, Zi, Zo, List.map_cons, List.map_nil, cond_true, cond_false, aop, Zv, Zq, Zp, ev, sput, Zt, Zz, Yb, unK, Zd, Zw, Nat.reduceBEq, Nat.reduceAdd, Int.reduceBEq, Int.reduceBNe, Int.reduceLT, Zu, Ya, tup, tyf], rfl⟩
      obtain rfl : m = o.length := by omega
      refine Yc fun N28 hN28 => ?_
      simp (maxSteps := 2000000) only [s11, ↓Za, ↓Zn, ↓Zr, ↓Ze, ↓Zj, ↓Zs, ↓Zg, ↓Zh, ↓Zf, ↓Zb, ↓Zc, ↓vdn, vup, Zm, Zk, Zl, Zi, Zo, List.map_cons, List.map_nil, cond_true, cond_false, aop, Zv, Zq, Zp, ev, sput, Zt, Zz, Yb, unK, Zd, Zw, Nat.reduceBEq, Nat.reduceAdd, Int.reduceBEq, Int.reduceBNe, Int.reduceLT, Zu, Ya, tup, tyf, hmin]
      refine hN28 [(0, v), (2, .bool false), (3, x1), (4, .int .i64 0), (5, Zx (n : Nat)), (6, .int .i64 0), (7, Zx (Xe o : Nat)), (8, .int .i64 0), (9, S), (12, w), (13, Zx (msk ((lin o k).take o.length) : Nat)), (103, x1), (104, Zx (n : Nat)), (105, Zx (i : Nat)), (114, w), (115, Zx o.length), (116, Zx o.length), (117, .bool false)] _ _ ?_ (by simp (maxSteps := 2000000) only [↓Za, ↓Zn, ↓Zr, ↓Ze, ↓Zj, ↓Zs, ↓Zg, ↓Zh, ↓Zf, ↓Zb, ↓Zc, ↓vdn, vup, Zm, Zk, Zl, Zi, Zo, List.map_cons, List.map_nil, cond_true, cond_false, aop, Zv, Zq, Zp, ev, sput, Zt, Zz, Yb, unK, Zd, Zw, Nat.reduceBEq, Nat.reduceAdd, Int.reduceBEq, Int.reduceBNe, Int.reduceLT, Zu, Ya, tup, tyf])
      clear hN28
      try clear N28
      refine Yc fun N29 hN29 => ?_
      simp (maxSteps := 2000000) only [s11, ↓Za, ↓Zn, ↓Zr, ↓Ze, ↓Zj, ↓Zs, ↓Zg, ↓Zh, ↓Zf, ↓Zb, ↓Zc, ↓vdn, vup, Zm, Zk, Zl, Zi, Zo, List.map_cons, List.map_nil, cond_true, cond_false, aop, Zv, Zq, Zp, ev, sput, Zt, Zz, Yb, unK, Zd, Zw, Nat.reduceBEq, Nat.reduceAdd, Int.reduceBEq, Int.reduceBNe, Int.reduceLT, Zu, Ya, tup, tyf]
      refine hQ4 _ _ _ (hQ3 _ _ _ ?_)
      simp (maxSteps := 2000000) only [s11, ↓Za, ↓Zn, ↓Zr, ↓Ze, ↓Zj, ↓Zs, ↓Zg, ↓Zh, ↓Zf, ↓Zb, ↓Zc, ↓vdn, vup, Zm, Zk, Zl, Zi, Zo, List.map_cons, List.map_nil, cond_true, cond_false, aop, Zv, Zq, Zp, ev, sput, Zt, Zz, Yb, unK, Zd, Zw, Nat.reduceBEq, Nat.reduceAdd, Int.reduceBEq, Int.reduceBNe, Int.reduceLT, Zu, Ya, tup, tyf, if_true]
      rw [tbM_congr (f := bsM o (q.take i) k o.length) (g := cmF o (q.take (i + 1))) fun x hx => by
        rw [hpre]; exact bsM_all (by rw [← hll]; exact List.idxOf_lt_length_of_mem (lf.pm.mem_iff.2 (List.mem_range.2 hx)))]
      refine hB [(0, v), (2, .bool false), (3, x1), (4, .int .i64 0), (5, Zx (n : Nat)), (6, .int .i64 0), (7, Zx (Xe o : Nat)), (8, .int .i64 0), (9, S), (103, x1), (104, Zx (n : Nat)), (105, Zx (i : Nat))] _ _ ?_ (by simp (maxSteps := 2000000) only [↓Za, ↓Zn, ↓Zr, ↓Ze, ↓Zj, ↓Zs, ↓Zg, ↓Zh, ↓Zf, ↓Zb, ↓Zc, ↓vdn, vup, Zm, Zk, Zl, Zi, Zo, List.map_cons, List.map_nil, cond_true, cond_false, aop, Zv, Zq, Zp, ev, sput, Zt, Zz, Yb, unK, Zd, Zw, Nat.reduceBEq, Nat.reduceAdd, Int.reduceBEq, Int.reduceBNe, Int.reduceLT, Zu, Ya, tup, tyf])
      clear hB
      try clear B
      refine Yn ?_
      simp (maxSteps := 2000000) only [s11, ↓Za, ↓Zn, ↓Zr, ↓Ze, ↓Zj, ↓Zs, ↓Zg, ↓Zh, ↓Zf, ↓Zb, ↓Zc, ↓vdn, vup, Zm, Zk, Zl, Zi, Zo, List.map_cons, List.map_nil, cond_true, cond_false, aop, Zv, Zq, Zp, ev, sput, Zt, Zz, Yb, unK, Zd, Zw, Nat.reduceBEq, Nat.reduceAdd, Int.reduceBEq, Int.reduceBNe, Int.reduceLT, Zu, Ya, tup, tyf, add1 (show i < 9223372036854775807 by omega)]
      exact hQ2 _ _ _ ⟨i + 1, hi', by omega, by simp (maxSteps := 2000000) only [↓Za, ↓Zn, ↓Zr, ↓Ze, ↓Zj, ↓Zs, ↓Zg, ↓Zh, ↓Zf, ↓Zb, ↓Zc, ↓vdn, vup, Zm, Zk, Zl, Zi, Zo, List.map_cons, List.map_nil, cond_true, cond_false, aop, Zv, Zq, Zp, ev, sput, Zt, Zz, Yb, unK, Zd, Zw, Nat.reduceBEq, Nat.reduceAdd, Int.reduceBEq, Int.reduceBNe, Int.reduceLT, Zu, Ya, tup, tyf], rfl⟩
    obtain rfl : n = i := by omega
    refine Yc fun N30 hN30 => ?_
    simp (maxSteps := 2000000) only [s11, ↓Za, ↓Zn, ↓Zr, ↓Ze, ↓Zj, ↓Zs, ↓Zg, ↓Zh, ↓Zf, ↓Zb, ↓Zc, ↓vdn, vup, Zm, Zk, Zl, Zi, Zo, List.map_cons, List.map_nil, cond_true, cond_false, aop, Zv, Zq, Zp, ev, sput, Zt, Zz, Yb, unK, Zd, Zw, Nat.reduceBEq, Nat.reduceAdd, Int.reduceBEq, Int.reduceBNe, Int.reduceLT, Zu, Ya, tup, tyf, hin2]
    refine hN30 [(0, v), (2, .bool false), (3, x1), (4, .int .i64 0), (5, Zx (n : Nat)), (6, .int .i64 0), (7, Zx (Xe o : Nat)), (8, .int .i64 0), (9, S), (103, x1), (104, Zx (n : Nat)), (105, Zx (n : Nat)), (106, .bool false)] _ _ ?_ (by simp (maxSteps := 2000000) only [↓Za, ↓Zn, ↓Zr, ↓Ze, ↓Zj, ↓Zs, ↓Zg, ↓Zh, ↓Zf, ↓Zb, ↓Zc, ↓vdn, vup, Zm, Zk, Zl, Zi, Zo, List.map_cons, List.map_nil, cond_true, cond_false, aop, Zv, Zq, Zp, ev, sput, Zt, Zz, Yb, unK, Zd, Zw, Nat.reduceBEq, Nat.reduceAdd, Int.reduceBEq, Int.reduceBNe, Int.reduceLT, Zu, Ya, tup, tyf])
    clear hN30
    try clear N30
    refine Yc fun N31 hN31 => ?_
    simp (maxSteps := 2000000) only [s11, ↓Za, ↓Zn, ↓Zr, ↓Ze, ↓Zj, ↓Zs, ↓Zg, ↓Zh, ↓Zf, ↓Zb, ↓Zc, ↓vdn, vup, Zm, Zk, Zl, Zi, Zo, List.map_cons, List.map_nil, cond_true, cond_false, aop, Zv, Zq, Zp, ev, sput, Zt, Zz, Yb, unK, Zd, Zw, Nat.reduceBEq, Nat.reduceAdd, Int.reduceBEq, Int.reduceBNe, Int.reduceLT, Zu, Ya, tup, tyf]
    refine hQ2 _ _ _ (hQ _ _ _ ?_)
    simp (maxSteps := 2000000) only [s11, ↓Za, ↓Zn, ↓Zr, ↓Ze, ↓Zj, ↓Zs, ↓Zg, ↓Zh, ↓Zf, ↓Zb, ↓Zc, ↓vdn, vup, Zm, Zk, Zl, Zi, Zo, List.map_cons, List.map_nil, cond_true, cond_false, aop, Zv, Zq, Zp, ev, sput, Zt, Zz, Yb, unK, Zd, Zw, Nat.reduceBEq, Nat.reduceAdd, Int.reduceBEq, Int.reduceBNe, Int.reduceLT, Zu, Ya, tup, tyf, if_true]
    have hall : tbM o (cmF o (q.take n)) = o := by
      rw [← hn, List.take_length]
      exact tbM_all ho (fun hc => by rw [hc] at hn; simp at hn; omega) hqk (hq ▸ df.sep)
    rw [hall]
    refine hZ [(0, v), (2, .bool false), (3, x1), (4, .int .i64 0), (5, Zx (n : Nat)), (6, .int .i64 0), (7, Zx (Xe o : Nat)), (8, .int .i64 0), (9, S)] _ _ ?_ (by simp (maxSteps := 2000000) only [↓Za, ↓Zn, ↓Zr, ↓Ze, ↓Zj, ↓Zs, ↓Zg, ↓Zh, ↓Zf, ↓Zb, ↓Zc, ↓vdn, vup, Zm, Zk, Zl, Zi, Zo, List.map_cons, List.map_nil, cond_true, cond_false, aop, Zv, Zq, Zp, ev, sput, Zt, Zz, Yb, unK, Zd, Zw, Nat.reduceBEq, Nat.reduceAdd, Int.reduceBEq, Int.reduceBNe, Int.reduceLT, Zu, Ya, tup, tyf])
    clear hZ
    try clear Z
    clear hQ hQ2
    have hSo : IntSl (X o) S o := by have := hSX (cmF o (q.take n)); rw [hall] at this; exact this
    refine Yc fun N32 hN32 => ?_
    simp (maxSteps := 2000000) only [s11, ↓Za, ↓Zn, ↓Zr, ↓Ze, ↓Zj, ↓Zs, ↓Zg, ↓Zh, ↓Zf, ↓Zb, ↓Zc, ↓vdn, vup, Zm, Zk, Zl, Zi, Zo, List.map_cons, List.map_nil, cond_true, cond_false, aop, Zv, Zq, Zp, ev, sput, Zt, Zz, Yb, unK, Zd, Zw, Nat.reduceBEq, Nat.reduceAdd, Int.reduceBEq, Int.reduceBNe, Int.reduceLT, Zu, Ya, tup, tyf]
    refine hN32 [(0, v), (2, .bool false), (3, x1), (4, .int .i64 0), (5, Zx (n : Nat)), (6, .int .i64 0), (7, Zx (Xe o : Nat)), (8, .int .i64 0), (9, S), (16, .bool false)] _ _ ?_ (by simp (maxSteps := 2000000) only [↓Za, ↓Zn, ↓Zr, ↓Ze, ↓Zj, ↓Zs, ↓Zg, ↓Zh, ↓Zf, ↓Zb, ↓Zc, ↓vdn, vup, Zm, Zk, Zl, Zi, Zo, List.map_cons, List.map_nil, cond_true, cond_false, aop, Zv, Zq, Zp, ev, sput, Zt, Zz, Yb, unK, Zd, Zw, Nat.reduceBEq, Nat.reduceAdd, Int.reduceBEq, Int.reduceBNe, Int.reduceLT, Zu, Ya, tup, tyf])
    clear hN32
    try clear N32
    refine Yh fun Z hZ => ?_
    refine Yc fun N33 hN33 => ?_
    simp (maxSteps := 2000000) only [s11, ↓Za, ↓Zn, ↓Zr, ↓Ze, ↓Zj, ↓Zs, ↓Zg, ↓Zh, ↓Zf, ↓Zb, ↓Zc, ↓vdn, vup, Zm, Zk, Zl, Zi, Zo, List.map_cons, List.map_nil, cond_true, cond_false, aop, Zv, Zq, Zp, ev, sput, Zt, Zz, Yb, unK, Zd, Zw, Nat.reduceBEq, Nat.reduceAdd, Int.reduceBEq, Int.reduceBNe, Int.reduceLT, Zu, Ya, tup, tyf, (hvX o).len]
    refine hN33 [(0, v), (2, .bool false), (3, x1), (4, .int .i64 0), (5, Zx (n : Nat)), (6, .int .i64 0), (7, Zx (Xe o : Nat)), (8, .int .i64 0), (9, S), (16, .bool false), (149, Zx o.length), (150, .int .i64 0)] _ _ ?_ (by simp (maxSteps := 2000000) only [↓Za, ↓Zn, ↓Zr, ↓Ze, ↓Zj, ↓Zs, ↓Zg, ↓Zh, ↓Zf, ↓Zb, ↓Zc, ↓vdn, vup, Zm, Zk, Zl, Zi, Zo, List.map_cons, List.map_nil, cond_true, cond_false, aop, Zv, Zq, Zp, ev, sput, Zt, Zz, Yb, unK, Zd, Zw, Nat.reduceBEq, Nat.reduceAdd, Int.reduceBEq, Int.reduceBNe, Int.reduceLT, Zu, Ya, tup, tyf])
    clear hN33
    try clear N33
    refine Ym ?_
    refine Yl fun Q hQ => ?_
    refine Wc (γ := Nat) (fun i => i ≤ o.length) (fun i => ([(0, v), (2, .bool false), (3, x1), (4, .int .i64 0), (5, Zx (n : Nat)), (6, .int .i64 0), (7, Zx (Xe o : Nat)), (8, .int .i64 0), (9, S), (16, .bool (fB o i 0)), (149, Zx o.length), (150, Zx (i : Nat))], X o)) (fun i => o.length - i) 0 (Nat.zero_le _) (by simp (maxSteps := 2000000) only [↓Za, ↓Zn, ↓Zr, ↓Ze, ↓Zj, ↓Zs, ↓Zg, ↓Zh, ↓Zf, ↓Zb, ↓Zc, ↓vdn, vup, Zm, Zk, Zl, Zi, Zo, List.map_cons, List.map_nil, cond_true, cond_false, aop, Zv, Zq, Zp, ev, sput, Zt, Zz, Yb, unK, Zd, Zw, Nat.reduceBEq, Nat.reduceAdd, Int.reduceBEq, Int.reduceBNe, Int.reduceLT, Zu, Ya, tup, tyf, Int.natCast_zero, show fB o 0 0 = false from rfl]) rfl ?_
    rintro i hi
    refine Yl fun Q2 hQ2 => ?_
    simp only [l11_4]
    by_cases hin3 : (i : Int) < o.length
    · have hi' : i < o.length := by omega
      refine Yc fun N34 hN34 => ?_
      simp (maxSteps := 2000000) only [s11, ↓Za, ↓Zn, ↓Zr, ↓Ze, ↓Zj, ↓Zs, ↓Zg, ↓Zh, ↓Zf, ↓Zb, ↓Zc, ↓vdn, vup, Zm, Zk, Zl, Zi, Zo, List.map_cons, List.map_nil, cond_true, cond_false, aop, Zv, Zq, Zp, ev, sput, Zt, Zz, Yb, unK, Zd, Zw, Nat.reduceBEq, Nat.reduceAdd, Int.reduceBEq, Int.reduceBNe, Int.reduceLT, Zu, Ya, tup, tyf, hin3]
      refine hN34 [(0, v), (2, .bool false), (3, x1), (4, .int .i64 0), (5, Zx (n : Nat)), (6, .int .i64 0), (7, Zx (Xe o : Nat)), (8, .int .i64 0), (9, S), (16, .bool (fB o i 0)), (149, Zx o.length), (150, Zx (i : Nat)), (151, .bool true)] _ _ ?_ (by simp (maxSteps := 2000000) only [↓Za, ↓Zn, ↓Zr, ↓Ze, ↓Zj, ↓Zs, ↓Zg, ↓Zh, ↓Zf, ↓Zb, ↓Zc, ↓vdn, vup, Zm, Zk, Zl, Zi, Zo, List.map_cons, List.map_nil, cond_true, cond_false, aop, Zv, Zq, Zp, ev, sput, Zt, Zz, Yb, unK, Zd, Zw, Nat.reduceBEq, Nat.reduceAdd, Int.reduceBEq, Int.reduceBNe, Int.reduceLT, Zu, Ya, tup, tyf])
      clear hN34
      try clear N34
      refine Yc fun N35 hN35 => ?_
      simp (maxSteps := 2000000) only [s11, ↓Za, ↓Zn, ↓Zr, ↓Ze, ↓Zj, ↓Zs, ↓Zg, ↓Zh, ↓Zf, ↓Zb, ↓Zc, ↓vdn, vup, Zm, Zk, Zl, Zi, Zo, List.map_cons, List.map_nil, cond_true, cond_false, aop, Zv, Zq, Zp, ev, sput, Zt, Zz, Yb, unK, Zd, Zw, Nat.reduceBEq, Nat.reduceAdd, Int.reduceBEq, Int.reduceBNe, Int.reduceLT, Zu, Ya, tup, tyf]
      refine hN35 [(0, v), (2, .bool false), (3, x1), (4, .int .i64 0), (5, Zx (n : Nat)), (6, .int .i64 0), (7, Zx (Xe o : Nat)), (8, .int .i64 0), (9, S), (16, .bool (fB o i 0)), (149, Zx o.length), (150, Zx (i : Nat))] _ _ ?_ (by simp (maxSteps := 2000000) only [↓Za, ↓Zn, ↓Zr, ↓Ze, ↓Zj, ↓Zs, ↓Zg, ↓Zh, ↓Zf, ↓Zb, ↓Zc, ↓vdn, vup, Zm, Zk, Zl, Zi, Zo, List.map_cons, List.map_nil, cond_true, cond_false, aop, Zv, Zq, Zp, ev, sput, Zt, Zz, Yb, unK, Zd, Zw, Nat.reduceBEq, Nat.reduceAdd, Int.reduceBEq, Int.reduceBNe, Int.reduceLT, Zu, Ya, tup, tyf])
      clear hN35
      try clear N35
      refine Yh fun B hB => ?_
      refine Ym ?_
      refine Yc fun N36 hN36 => ?_
      simp (maxSteps := 2000000) only [s11, ↓Za, ↓Zn, ↓Zr, ↓Ze, ↓Zj, ↓Zs, ↓Zg, ↓Zh, ↓Zf, ↓Zb, ↓Zc, ↓vdn, vup, Zm, Zk, Zl, Zi, Zo, List.map_cons, List.map_nil, cond_true, cond_false, aop, Zv, Zq, Zp, ev, sput, Zt, Zz, Yb, unK, Zd, Zw, Nat.reduceBEq, Nat.reduceAdd, Int.reduceBEq, Int.reduceBNe, Int.reduceLT, Zu, Ya, tup, tyf]
      refine hN36 [(0, v), (2, .bool false), (3, x1), (4, .int .i64 0), (5, Zx (n : Nat)), (6, .int .i64 0), (7, Zx (Xe o : Nat)), (8, .int .i64 0), (9, S), (16, .bool (fB o i 0)), (17, Zx (i : Nat)), (149, Zx o.length), (150, Zx (i : Nat))] _ _ ?_ (by simp (maxSteps := 2000000) only [↓Za, ↓Zn, ↓Zr, ↓Ze, ↓Zj, ↓Zs, ↓Zg, ↓Zh, ↓Zf, ↓Zb, ↓Zc, ↓vdn, vup, Zm, Zk, Zl, Zi, Zo, List.map_cons, List.map_nil, cond_true, cond_false, aop, Zv, Zq, Zp, ev, sput, Zt, Zz, Yb, unK, Zd, Zw, Nat.reduceBEq, Nat.reduceAdd, Int.reduceBEq, Int.reduceBNe, Int.reduceLT, Zu, Ya, tup, tyf])
      clear hN36
      try clear N36
      refine Yc fun N37 hN37 => ?_
      simp (maxSteps := 2000000) only [s11, ↓Za, ↓Zn, ↓Zr, ↓Ze, ↓Zj, ↓Zs, ↓Zg, ↓Zh, ↓Zf, ↓Zb, ↓Zc, ↓vdn, vup, Zm, Zk, Zl, Zi, Zo, List.map_cons, List.map_nil, cond_true, cond_false, aop, Zv, Zq, Zp, ev, sput, Zt, Zz, Yb, unK, Zd, Zw, Nat.reduceBEq, Nat.reduceAdd, Int.reduceBEq, Int.reduceBNe, Int.reduceLT, Zu, Ya, tup, tyf, (hvX o).len]
      refine hN37 [(0, v), (2, .bool false), (3, x1), (4, .int .i64 0), (5, Zx (n : Nat)), (6, .int .i64 0), (7, Zx (Xe o : Nat)), (8, .int .i64 0), (9, S), (16, .bool (fB o i 0)), (17, Zx (i : Nat)), (149, Zx o.length), (150, Zx (i : Nat)), (154, Zx o.length), (155, .int .i64 0)] _ _ ?_ (by simp (maxSteps := 2000000) only [↓Za, ↓Zn, ↓Zr, ↓Ze, ↓Zj, ↓Zs, ↓Zg, ↓Zh, ↓Zf, ↓Zb, ↓Zc, ↓vdn, vup, Zm, Zk, Zl, Zi, Zo, List.map_cons, List.map_nil, cond_true, cond_false, aop, Zv, Zq, Zp, ev, sput, Zt, Zz, Yb, unK, Zd, Zw, Nat.reduceBEq, Nat.reduceAdd, Int.reduceBEq, Int.reduceBNe, Int.reduceLT, Zu, Ya, tup, tyf])
      clear hN37
      try clear N37
      refine Ym ?_
      refine Yl fun Qa hQa => ?_
      refine Wc (γ := Nat) (fun j => j ≤ o.length) (fun j => ([(0, v), (2, .bool false), (3, x1), (4, .int .i64 0), (5, Zx (n : Nat)), (6, .int .i64 0), (7, Zx (Xe o : Nat)), (8, .int .i64 0), (9, S), (16, .bool (fB o i j)), (17, Zx (i : Nat)), (149, Zx o.length), (150, Zx (i : Nat)), (154, Zx o.length), (155, Zx (j : Nat))], X o)) (fun j => o.length - j) 0 (Nat.zero_le _) (by simp (maxSteps := 2000000) only [↓Za, ↓Zn, ↓Zr, ↓Ze, ↓Zj, ↓Zs, ↓Zg, ↓Zh, ↓Zf, ↓Zb, ↓Zc, ↓vdn, vup, Zm, Zk, Zl, Zi, Zo, List.map_cons, List.map_nil, cond_true, cond_false, aop, Zv, Zq, Zp, ev, sput, Zt, Zz, Yb, unK, Zd, Zw, Nat.reduceBEq, Nat.reduceAdd, Int.reduceBEq, Int.reduceBNe, Int.reduceLT, Zu, Ya, tup, tyf, Int.natCast_zero]) rfl ?_
      rintro j hj
      refine Yl fun Qb hQb => ?_
      simp only [l11_3]
      by_cases hjin : (j : Int) < o.length
      · have hj' : j < o.length := by omega
        have hfs := fB_succ o i j
        refine Yc fun N38 hN38 => ?_
        simp (maxSteps := 2000000) only [s11, ↓Za, ↓Zn, ↓Zr, ↓Ze, ↓Zj, ↓Zs, ↓Zg, ↓Zh, ↓Zf, ↓Zb, ↓Zc, ↓vdn, vup, Zm, Zk, Zl, Zi, Zo, List.map_cons, List.map_nil, cond_true, cond_false, aop, Zv, Zq, Zp, ev, sput, Zt, Zz, Yb, unK, Zd, Zw, Nat.reduceBEq, Nat.reduceAdd, Int.reduceBEq, Int.reduceBNe, Int.reduceLT, Zu, Ya, tup, tyf, hjin]
        refine hN38 [(0, v), (2, .bool false), (3, x1), (4, .int .i64 0), (5, Zx (n : Nat)), (6, .int .i64 0), (7, Zx (Xe o : Nat)), (8, .int .i64 0), (9, S), (16, .bool (fB o i j)), (17, Zx (i : Nat)), (149, Zx o.length), (150, Zx (i : Nat)), (154, Zx o.length), (155, Zx (j : Nat)), (156, .bool true)] _ _ ?_ (by simp (maxSteps := 2000000) only [↓Za, ↓Zn, ↓Zr, ↓Ze, ↓Zj, ↓Zs, ↓Zg, ↓Zh, ↓Zf, ↓Zb, ↓Zc, ↓vdn, vup, Zm, Zk, Zl, Zi, Zo, List.map_cons, List.map_nil, cond_true, cond_false, aop, Zv, Zq, Zp, ev, sput, Zt, Zz, Yb, unK, Zd, Zw, Nat.reduceBEq, Nat.reduceAdd, Int.reduceBEq, Int.reduceBNe, Int.reduceLT, Zu, Ya, tup, tyf])
        clear hN38
        try clear N38
        refine Yc fun N39 hN39 => ?_
        simp (maxSteps := 2000000) only [s11, ↓Za, ↓Zn, ↓Zr, ↓Ze, ↓Zj, ↓Zs, ↓Zg, ↓Zh, ↓Zf, ↓Zb, ↓Zc, ↓vdn, vup, Zm, Zk, Zl, Zi, Zo, List.map_cons, List.map_nil, cond_true, cond_false, aop, Zv, Zq, Zp, ev, sput, Zt, Zz, Yb, unK, Zd, Zw, Nat.reduceBEq, Nat.reduceAdd, Int.reduceBEq, Int.reduceBNe, Int.reduceLT, Zu, Ya, tup, tyf]
        refine hN39 [(0, v), (2, .bool false), (3, x1), (4, .int .i64 0), (5, Zx (n : Nat)), (6, .int .i64 0), (7, Zx (Xe o : Nat)), (8, .int .i64 0), (9, S), (16, .bool (fB o i j)), (17, Zx (i : Nat)), (149, Zx o.length), (150, Zx (i : Nat)), (154, Zx o.length), (155, Zx (j : Nat))] _ _ ?_ (by simp (maxSteps := 2000000) only [↓Za, ↓Zn, ↓Zr, ↓Ze, ↓Zj, ↓Zs, ↓Zg, ↓Zh, ↓Zf, ↓Zb, ↓Zc, ↓vdn, vup, Zm, Zk, Zl, Zi, Zo, List.map_cons, List.map_nil, cond_true, cond_false, aop, Zv, Zq, Zp, ev, sput, Zt, Zz, Yb, unK, Zd, Zw, Nat.reduceBEq, Nat.reduceAdd, Int.reduceBEq, Int.reduceBNe, Int.reduceLT, Zu, Ya, tup, tyf])
        clear hN39
        try clear N39
        refine Yh fun D hD => ?_
        refine Ym ?_
        refine Yc fun N40 hN40 => ?_
        simp (maxSteps := 2000000) only [s11, ↓Za, ↓Zn, ↓Zr, ↓Ze, ↓Zj, ↓Zs, ↓Zg, ↓Zh, ↓Zf, ↓Zb, ↓Zc, ↓vdn, vup, Zm, Zk, Zl, Zi, Zo, List.map_cons, List.map_nil, cond_true, cond_false, aop, Zv, Zq, Zp, ev, sput, Zt, Zz, Yb, unK, Zd, Zw, Nat.reduceBEq, Nat.reduceAdd, Int.reduceBEq, Int.reduceBNe, Int.reduceLT, Zu, Ya, tup, tyf]
        refine hN40 [(0, v), (2, .bool false), (3, x1), (4, .int .i64 0), (5, Zx (n : Nat)), (6, .int .i64 0), (7, Zx (Xe o : Nat)), (8, .int .i64 0), (9, S), (16, .bool (fB o i j)), (17, Zx (i : Nat)), (18, Zx (j : Nat)), (149, Zx o.length), (150, Zx (i : Nat)), (154, Zx o.length), (155, Zx (j : Nat))] _ _ ?_ (by simp (maxSteps := 2000000) only [↓Za, ↓Zn, ↓Zr, ↓Ze, ↓Zj, ↓Zs, ↓Zg, ↓Zh, ↓Zf, ↓Zb, ↓Zc, ↓vdn, vup, Zm, Zk, Zl, Zi, Zo, List.map_cons, List.map_nil, cond_true, cond_false, aop, Zv, Zq, Zp, ev, sput, Zt, Zz, Yb, unK, Zd, Zw, Nat.reduceBEq, Nat.reduceAdd, Int.reduceBEq, Int.reduceBNe, Int.reduceLT, Zu, Ya, tup, tyf])
        clear hN40
        try clear N40
        refine Yn ?_
        cases hf : fB o i j with
        | true =>
          rw [hf, Bool.true_or] at hfs
          simp (maxSteps := 2000000) only [s11, ↓Za, ↓Zn, ↓Zr, ↓Ze, ↓Zj, ↓Zs, ↓Zg, ↓Zh, ↓Zf, ↓Zb, ↓Zc, ↓vdn, vup, Zm, Zk, Zl, Zi, Zo, List.map_cons, List.map_nil, cond_true, cond_false, aop, Zv, Zq, Zp, ev, sput, Zt, Zz, Yb, unK, Zd, Zw, Nat.reduceBEq, Nat.reduceAdd, Int.reduceBEq, Int.reduceBNe, Int.reduceLT, Zu, Ya, tup, tyf, hf]
          refine hD [(0, v), (2, .bool false), (3, x1), (4, .int .i64 0), (5, Zx (n : Nat)), (6, .int .i64 0), (7, Zx (Xe o : Nat)), (8, .int .i64 0), (9, S), (16, .bool true), (17, Zx (i : Nat)), (149, Zx o.length), (150, Zx (i : Nat)), (154, Zx o.length), (155, Zx (j : Nat))] _ _ ?_ (by simp (maxSteps := 2000000) only [↓Za, ↓Zn, ↓Zr, ↓Ze, ↓Zj, ↓Zs, ↓Zg, ↓Zh, ↓Zf, ↓Zb, ↓Zc, ↓vdn, vup, Zm, Zk, Zl, Zi, Zo, List.map_cons, List.map_nil, cond_true, cond_false, aop, Zv, Zq, Zp, ev, sput, Zt, Zz, Yb, unK, Zd, Zw, Nat.reduceBEq, Nat.reduceAdd, Int.reduceBEq, Int.reduceBNe, Int.reduceLT, Zu, Ya, tup, tyf])
          clear hD
          try clear D
          refine Yn ?_
          simp (maxSteps := 2000000) only [s11, ↓Za, ↓Zn, ↓Zr, ↓Ze, ↓Zj, ↓Zs, ↓Zg, ↓Zh, ↓Zf, ↓Zb, ↓Zc, ↓vdn, vup, Zm, Zk, Zl, Zi, Zo, List.map_cons, List.map_nil, cond_true, cond_false, aop, Zv, Zq, Zp, ev, sput, Zt, Zz, Yb, unK, Zd, Zw, Nat.reduceBEq, Nat.reduceAdd, Int.reduceBEq, Int.reduceBNe, Int.reduceLT, Zu, Ya, tup, tyf, add1 (show j < 9223372036854775807 by omega)]
          exact hQb _ _ _ ⟨j + 1, hj', by omega, by simp (maxSteps := 2000000) only [↓Za, ↓Zn, ↓Zr, ↓Ze, ↓Zj, ↓Zs, ↓Zg, ↓Zh, ↓Zf, ↓Zb, ↓Zc, ↓vdn, vup, Zm, Zk, Zl, Zi, Zo, List.map_cons, List.map_nil, cond_true, cond_false, aop, Zv, Zq, Zp, ev, sput, Zt, Zz, Yb, unK, Zd, Zw, Nat.reduceBEq, Nat.reduceAdd, Int.reduceBEq, Int.reduceBNe, Int.reduceLT, Zu, Ya, tup, tyf, hfs], rfl⟩
        | false =>
          rw [hf, Bool.false_or] at hfs
          simp (maxSteps := 2000000) only [s11, ↓Za, ↓Zn, ↓Zr, ↓Ze, ↓Zj, ↓Zs, ↓Zg, ↓Zh, ↓Zf, ↓Zb, ↓Zc, ↓vdn, vup, Zm, Zk, Zl, Zi, Zo, List.map_cons, List.map_nil, cond_true, cond_false, aop, Zv, Zq, Zp, ev, sput, Zt, Zz, Yb, unK, Zd, Zw, Nat.reduceBEq, Nat.reduceAdd, Int.reduceBEq, Int.reduceBNe, Int.reduceLT, Zu, Ya, tup, tyf, hf, Xh, List.nil_append, List.append_nil, List.toList_toArray, List.cons_append]
          refine (rfree_call (hvX o) ho hi' hj').mono ?_
          rintro _ _ ⟨rfl, rfl⟩
          refine hD [(0, v), (2, .bool false), (3, x1), (4, .int .i64 0), (5, Zx (n : Nat)), (6, .int .i64 0), (7, Zx (Xe o : Nat)), (8, .int .i64 0), (9, S), (16, .bool (fr o i j)), (17, Zx (i : Nat)), (149, Zx o.length), (150, Zx (i : Nat)), (154, Zx o.length), (155, Zx (j : Nat))] _ _ ?_ (by simp (maxSteps := 2000000) only [↓Za, ↓Zn, ↓Zr, ↓Ze, ↓Zj, ↓Zs, ↓Zg, ↓Zh, ↓Zf, ↓Zb, ↓Zc, ↓vdn, vup, Zm, Zk, Zl, Zi, Zo, List.map_cons, List.map_nil, cond_true, cond_false, aop, Zv, Zq, Zp, ev, sput, Zt, Zz, Yb, unK, Zd, Zw, Nat.reduceBEq, Nat.reduceAdd, Int.reduceBEq, Int.reduceBNe, Int.reduceLT, Zu, Ya, tup, tyf])
          clear hD
          try clear D
          refine Yn ?_
          simp (maxSteps := 2000000) only [s11, ↓Za, ↓Zn, ↓Zr, ↓Ze, ↓Zj, ↓Zs, ↓Zg, ↓Zh, ↓Zf, ↓Zb, ↓Zc, ↓vdn, vup, Zm, Zk, Zl, Zi, Zo, List.map_cons, List.map_nil, cond_true, cond_false, aop, Zv, Zq, Zp, ev, sput, Zt, Zz, Yb, unK, Zd, Zw, Nat.reduceBEq, Nat.reduceAdd, Int.reduceBEq, Int.reduceBNe, Int.reduceLT, Zu, Ya, tup, tyf, add1 (show j < 9223372036854775807 by omega)]
          exact hQb _ _ _ ⟨j + 1, hj', by omega, by simp (maxSteps := 2000000) only [↓Za, ↓Zn, ↓Zr, ↓Ze, ↓Zj, ↓Zs, ↓Zg, ↓Zh, ↓Zf, ↓Zb, ↓Zc, ↓vdn, vup, Zm, Zk, Zl, Zi, Zo, List.map_cons, List.map_nil, cond_true, cond_false, aop, Zv, Zq, Zp, ev, sput, Zt, Zz, Yb, unK, Zd, Zw, Nat.reduceBEq, Nat.reduceAdd, Int.reduceBEq, Int.reduceBNe, Int.reduceLT, Zu, Ya, tup, tyf, hfs], rfl⟩
      obtain rfl : j = o.length := by omega
      refine Yc fun N41 hN41 => ?_
      simp (maxSteps := 2000000) only [s11, ↓Za, ↓Zn, ↓Zr, ↓Ze, ↓Zj, ↓Zs, ↓Zg, ↓Zh, ↓Zf, ↓Zb, ↓Zc, ↓vdn, vup, Zm, Zk, Zl, Zi, Zo, List.map_cons, List.map_nil, cond_true, cond_false, aop, Zv, Zq, Zp, ev, sput, Zt, Zz, Yb, unK, Zd, Zw, Nat.reduceBEq, Nat.reduceAdd, Int.reduceBEq, Int.reduceBNe, Int.reduceLT, Zu, Ya, tup, tyf, hjin]
      refine hN41 [(0, v), (2, .bool false), (3, x1), (4, .int .i64 0), (5, Zx (n : Nat)), (6, .int .i64 0), (7, Zx (Xe o : Nat)), (8, .int .i64 0), (9, S), (16, .bool (fB o i o.length)), (17, Zx (i : Nat)), (149, Zx o.length), (150, Zx (i : Nat)), (154, Zx o.length), (155, Zx o.length), (156, .bool false)] _ _ ?_ (by simp (maxSteps := 2000000) only [↓Za, ↓Zn, ↓Zr, ↓Ze, ↓Zj, ↓Zs, ↓Zg, ↓Zh, ↓Zf, ↓Zb, ↓Zc, ↓vdn, vup, Zm, Zk, Zl, Zi, Zo, List.map_cons, List.map_nil, cond_true, cond_false, aop, Zv, Zq, Zp, ev, sput, Zt, Zz, Yb, unK, Zd, Zw, Nat.reduceBEq, Nat.reduceAdd, Int.reduceBEq, Int.reduceBNe, Int.reduceLT, Zu, Ya, tup, tyf])
      clear hN41
      try clear N41
      refine Yc fun N42 hN42 => ?_
      simp (maxSteps := 2000000) only [s11, ↓Za, ↓Zn, ↓Zr, ↓Ze, ↓Zj, ↓Zs, ↓Zg, ↓Zh, ↓Zf, ↓Zb, ↓Zc, ↓vdn, vup, Zm, Zk, Zl, Zi, Zo, List.map_cons, List.map_nil, cond_true, cond_false, aop, Zv, Zq, Zp, ev, sput, Zt, Zz, Yb, unK, Zd, Zw, Nat.reduceBEq, Nat.reduceAdd, Int.reduceBEq, Int.reduceBNe, Int.reduceLT, Zu, Ya, tup, tyf]
      refine hQb _ _ _ (hQa _ _ _ ?_)
      simp (maxSteps := 2000000) only [s11, ↓Za, ↓Zn, ↓Zr, ↓Ze, ↓Zj, ↓Zs, ↓Zg, ↓Zh, ↓Zf, ↓Zb, ↓Zc, ↓vdn, vup, Zm, Zk, Zl, Zi, Zo, List.map_cons, List.map_nil, cond_true, cond_false, aop, Zv, Zq, Zp, ev, sput, Zt, Zz, Yb, unK, Zd, Zw, Nat.reduceBEq, Nat.reduceAdd, Int.reduceBEq, Int.reduceBNe, Int.reduceLT, Zu, Ya, tup, tyf, if_true]
      refine hB [(0, v), (2, .bool false), (3, x1), (4, .int .i64 0), (5, Zx (n : Nat)), (6, .int .i64 0), (7, Zx (Xe o : Nat)), (8, .int .i64 0), (9, S), (16, .bool (fB o i o.length)), (149, Zx o.length), (150, Zx (i : Nat))] _ _ ?_ (by simp (maxSteps := 2000000) only [↓Za, ↓Zn, ↓Zr, ↓Ze, ↓Zj, ↓Zs, ↓Zg, ↓Zh, ↓Zf, ↓Zb, ↓Zc, ↓vdn, vup, Zm, Zk, Zl, Zi, Zo, List.map_cons, List.map_nil, cond_true, cond_false, aop, Zv, Zq, Zp, ev, sput, Zt, Zz, Yb, unK, Zd, Zw, Nat.reduceBEq, Nat.reduceAdd, Int.reduceBEq, Int.reduceBNe, Int.reduceLT, Zu, Ya, tup, tyf])
      clear hB
      try clear B
      refine Yn ?_
      simp (maxSteps := 2000000) only [s11, ↓Za, ↓Zn, ↓Zr, ↓Ze, ↓Zj, ↓Zs, ↓Zg, ↓Zh, ↓Zf, ↓Zb, ↓Zc, ↓vdn, vup, Zm, Zk, Zl, Zi, Zo, List.map_cons, List.map_nil, cond_true, cond_false, aop, Zv, Zq, Zp, ev, sput, Zt, Zz, Yb, unK, Zd, Zw, Nat.reduceBEq, Nat.reduceAdd, Int.reduceBEq, Int.reduceBNe, Int.reduceLT, Zu, Ya, tup, tyf, add1 (show i < 9223372036854775807 by omega)]
      exact hQ2 _ _ _ ⟨i + 1, hi', by omega, by simp (maxSteps := 2000000) only [↓Za, ↓Zn, ↓Zr, ↓Ze, ↓Zj, ↓Zs, ↓Zg, ↓Zh, ↓Zf, ↓Zb, ↓Zc, ↓vdn, vup, Zm, Zk, Zl, Zi, Zo, List.map_cons, List.map_nil, cond_true, cond_false, aop, Zv, Zq, Zp, ev, sput, Zt, Zz, Yb, unK, Zd, Zw, Nat.reduceBEq, Nat.reduceAdd, Int.reduceBEq, Int.reduceBNe, Int.reduceLT, Zu, Ya, tup, tyf, fB_next], rfl⟩
    obtain rfl : i = o.length := by omega
    refine Yc fun N43 hN43 => ?_
    simp (maxSteps := 2000000) only [s11, ↓Za, ↓Zn, ↓Zr, ↓Ze, ↓Zj, ↓Zs, ↓Zg, ↓Zh, ↓Zf, ↓Zb, ↓Zc, ↓vdn, vup, Zm, Zk, Zl, Zi, Zo, List.map_cons, List.map_nil, cond_true, cond_false, aop, Zv, Zq, Zp, ev, sput, Zt, Zz, Yb, unK, Zd, Zw, Nat.reduceBEq, Nat.reduceAdd, Int.reduceBEq, Int.reduceBNe, Int.reduceLT, Zu, Ya, tup, tyf, hin3]
    refine hN43 [(0, v), (2, .bool false), (3, x1), (4, .int .i64 0), (5, Zx (n : Nat)), (6, .int .i64 0), (7, Zx (Xe o : Nat)), (8, .int .i64 0), (9, S), (16, .bool (fB o o.length 0)), (149, Zx o.length), (150, Zx o.length), (151, .bool false)] _ _ ?_ (by simp (maxSteps := 2000000) only [↓Za, ↓Zn, ↓Zr, ↓Ze, ↓Zj, ↓Zs, ↓Zg, ↓Zh, ↓Zf, ↓Zb, ↓Zc, ↓vdn, vup, Zm, Zk, Zl, Zi, Zo, List.map_cons, List.map_nil, cond_true, cond_false, aop, Zv, Zq, Zp, ev, sput, Zt, Zz, Yb, unK, Zd, Zw, Nat.reduceBEq, Nat.reduceAdd, Int.reduceBEq, Int.reduceBNe, Int.reduceLT, Zu, Ya, tup, tyf])
    clear hN43
    try clear N43
    refine Yc fun N44 hN44 => ?_
    simp (maxSteps := 2000000) only [s11, ↓Za, ↓Zn, ↓Zr, ↓Ze, ↓Zj, ↓Zs, ↓Zg, ↓Zh, ↓Zf, ↓Zb, ↓Zc, ↓vdn, vup, Zm, Zk, Zl, Zi, Zo, List.map_cons, List.map_nil, cond_true, cond_false, aop, Zv, Zq, Zp, ev, sput, Zt, Zz, Yb, unK, Zd, Zw, Nat.reduceBEq, Nat.reduceAdd, Int.reduceBEq, Int.reduceBNe, Int.reduceLT, Zu, Ya, tup, tyf]
    refine hQ2 _ _ _ (hQ _ _ _ ?_)
    simp (maxSteps := 2000000) only [s11, ↓Za, ↓Zn, ↓Zr, ↓Ze, ↓Zj, ↓Zs, ↓Zg, ↓Zh, ↓Zf, ↓Zb, ↓Zc, ↓vdn, vup, Zm, Zk, Zl, Zi, Zo, List.map_cons, List.map_nil, cond_true, cond_false, aop, Zv, Zq, Zp, ev, sput, Zt, Zz, Yb, unK, Zd, Zw, Nat.reduceBEq, Nat.reduceAdd, Int.reduceBEq, Int.reduceBNe, Int.reduceLT, Zu, Ya, tup, tyf, if_true]
    refine hZ [(0, v), (2, .bool false), (3, x1), (4, .int .i64 0), (5, Zx (n : Nat)), (6, .int .i64 0), (7, Zx (Xe o : Nat)), (8, .int .i64 0), (9, S), (16, .bool (fB o o.length 0))] _ _ ?_ (by simp (maxSteps := 2000000) only [↓Za, ↓Zn, ↓Zr, ↓Ze, ↓Zj, ↓Zs, ↓Zg, ↓Zh, ↓Zf, ↓Zb, ↓Zc, ↓vdn, vup, Zm, Zk, Zl, Zi, Zo, List.map_cons, List.map_nil, cond_true, cond_false, aop, Zv, Zq, Zp, ev, sput, Zt, Zz, Yb, unK, Zd, Zw, Nat.reduceBEq, Nat.reduceAdd, Int.reduceBEq, Int.reduceBNe, Int.reduceLT, Zu, Ya, tup, tyf])
    clear hZ
    try clear Z
    clear hQ hQ2
    have hfin : (((n : Int) == 1) == !fB o o.length 0) = true := by
      have h1 := df.one
      rw [hq, hn, ← fB_all] at h1
      cases hf : fB o o.length 0 with
      | false =>
        have := h1.2 hf
        rw [this]; rfl
      | true =>
        have h2 : n ≠ 1 := fun h => by rw [h1.1 h] at hf; cases hf
        have : ((n : Int) == 1) = false := by rw [beq_eq_false_iff_ne]; omega
        rw [this]; rfl
    refine Yn ?_
    simp (maxSteps := 2000000) only [s11, ↓Za, ↓Zn, ↓Zr, ↓Ze, ↓Zj, ↓Zs, ↓Zg, ↓Zh, ↓Zf, ↓Zb, ↓Zc, ↓vdn, vup, Zm, Zk, Zl, Zi, Zo, List.map_cons, List.map_nil, cond_true, cond_false, aop, Zv, Zq, Zp, ev, sput, Zt, Zz, Yb, unK, Zd, Zw, Nat.reduceBEq, Nat.reduceAdd, Int.reduceBEq, Int.reduceBNe, Int.reduceLT, Zu, Ya, tup, tyf, Xh, List.nil_append, List.append_nil, List.toList_toArray, List.cons_append]
    refine (equal_call hSo (hvX o) hl hl).mono ?_
    rintro _ _ ⟨rfl, rfl⟩
    simp (maxSteps := 2000000) only [s11, ↓Za, ↓Zn, ↓Zr, ↓Ze, ↓Zj, ↓Zs, ↓Zg, ↓Zh, ↓Zf, ↓Zb, ↓Zc, ↓vdn, vup, Zm, Zk, Zl, Zi, Zo, List.map_cons, List.map_nil, cond_true, cond_false, aop, Zv, Zq, Zp, ev, sput, Zt, Zz, Yb, unK, Zd, Zw, Nat.reduceBEq, Nat.reduceAdd, Int.reduceBEq, Int.reduceBNe, Int.reduceLT, Zu, Ya, tup, tyf, und_4, hfin, Xh, List.nil_append, List.append_nil, List.toList_toArray, List.cons_append]
    refine awake_call.mono ?_
    rintro _ _ ⟨rfl, rfl⟩
    simp (maxSteps := 2000000) only [s11, ↓Za, ↓Zn, ↓Zr, ↓Ze, ↓Zj, ↓Zs, ↓Zg, ↓Zh, ↓Zf, ↓Zb, ↓Zc, ↓vdn, vup, Zm, Zk, Zl, Zi, Zo, List.map_cons, List.map_nil, cond_true, cond_false, aop, Zv, Zq, Zp, ev, sput, Zt, Zz, Yb, unK, Zd, Zw, Nat.reduceBEq, Nat.reduceAdd, Int.reduceBEq, Int.reduceBNe, Int.reduceLT, Zu, Ya, tup, tyf]
end Go.Proofs.Tryd.Am

/-
  sure: the determinant.
  sure: a copy that its maker may grow.
  sure: Cramer's rule.
  sure: fractions: the program's arithmetic, and the reference's.
-/
import Derived.Test.YtaagkbbphgdcdaaDoorPk4
import Derived.Test.YtaagkbbphgdcdaaDoorPk5
import Derived.Test.YtaagkbbphgdcdaaDoorPk7
import Derived.Test.YtaagkbbphgdcdaaDoorPk6
set_option linter.all false
namespace Go.Proofs.Tryd.Am
open Go.Am
set_option maxRecDepth 100000
set_option maxHeartbeats 4000000

def RowsI (h : Yd) (v : Value) (rows : List (List Int)) : Prop := ∃ ws, ValSl h v ws ∧ Each (IntSl h) ws rows
theorem RowsI.ext {h h' : Yd} {v : Value} {rows : List (List Int)} (hr : RowsI h v rows) (hE : Ext (fun _ => False) h h') : RowsI h' v rows := by
  obtain ⟨ws, h1, h2⟩ := hr
  exact ⟨ws, h1.ext hE, h2.imp fun w l hw => hw.same fun b hb => hE.2 b (hw.lt hb) id⟩
theorem intSl_notI {h : Yd} {v : Value} {xs : List Int} (hv : IntSl h v xs) : notI v = true ∧ one v = true := by
  rcases hv with ⟨rfl, rfl⟩ | ⟨b, o, sp, cap, c, e, ro, rfl, _⟩ <;> exact ⟨rfl, rfl⟩
theorem Each.take' {R : Value → List Int → Prop} : ∀ {us : List Value} {bs : List (List Int)} (i : Nat), Each R us bs → Each R (us.take i) (bs.take i)
  | [], [], i, _ => by simp; trivial
  | _ :: _, _ :: _, 0, _ => trivial
  | _ :: _, _ :: _, i + 1, h => ⟨h.1, Each.take' i h.2⟩
  | [], _ :: _, _, h => h.elim
  | _ :: _, [], _, h => h.elim
theorem Each.drop' {R : Value → List Int → Prop} : ∀ {us : List Value} {bs : List (List Int)} (i : Nat), Each R us bs → Each R (us.drop i) (bs.drop i)
  | [], [], i, _ => by simp; trivial
  | _ :: _, _ :: _, 0, h => h
  | _ :: _, _ :: _, i + 1, h => Each.drop' i h.2
  | [], _ :: _, _, h => h.elim
  | _ :: _, [], _, h => h.elim
theorem ext_own {h h1 h2 : Yd} {v1 : Value} (hE1 : Ext (fun _ => False) h h1) (hb : ∀ b, Yq v1 = some b → h.length ≤ b) (hE2 : Ext (fun i => Yq v1 = some i) h1 h2) : Ext (fun _ => False) h h2 :=
  ⟨Nat.le_trans hE1.1 hE2.1, fun i hi _ => (hE2.2 i (Nat.lt_of_lt_of_le hi hE1.1) fun hc => by have := hb _ hc; omega).trans (hE1.2 i hi id)⟩
theorem tmod2 (k : Nat) : Int.tmod (k : Int) 2 = ((k % 2 : Nat) : Int) := rfl
theorem fact_le : ∀ {n : Nat}, n ≤ 6 → Bq.fact n ≤ 720
  | 0, _ => by decide
  | 1, _ => by decide
  | 2, _ => by decide
  | 3, _ => by decide
  | 4, _ => by decide
  | 5, _ => by decide
  | 6, _ => by decide
  | n + 7, h => by omega
def detF (n : Nat) (s : List (List Int)) (i : Nat) : Int := (if (i + n) % 2 = 0 then 1 else -1) * (s.getD i []).getD n 0 * Bq.pdet n (s.eraseIdx i)

theorem s99_callW [Tabs Tryd.prog] {args : List Value} {h : Yd} {Q : Value → Yd → Prop} (hsz : args.length ≤ 57) (hk : AWS Tryd.prog 57 s99 (Zv Tryd.prog [.tmp 4] Q) (Zp 0 args) h) : ACall Tryd.prog 99 args h Q :=
  Wb Tryd.func99 rfl (enters_of Tryd.func99 (by kernel_rfl) rfl) rfl rfl (by decide) s99_strip s99_ok hsz hk
theorem det_call [Tabs prog] : ∀ (n : Nat) {h : Yd} {v : Value} {s : List (List Int)}, n ≤ 6 → s.length = n → (∀ r ∈ s, n ≤ r.length ∧ ∀ y ∈ r, y = 0 ∨ y = 1) → RowsI h v s → APure prog 99 [v, Zy n] h (Zy (Bq.pdet n s)) := by
  intro n
  induction n with
  | zero =>
    intro h v s h6 hl hr hv
    refine s99_call (by simp) ?_
    simp only [s99]
    simp (maxSteps := 2000000) only [s99, ↓Za, ↓Zk, ↓Zs, ↓Zf, ↓Zn, ↓Zt, ↓Ze, ↓Zj, ↓Zg, ↓Zb, ↓Zc, ↓vdn, vup, Zl, Zh, Zi, Zm, Zo, List.map_cons, List.map_nil, cond_true, cond_false, aop, Zw, Zr, Zp, ev, sput, Zu, Zz, Yb, unK, Zd, Zx, Nat.reduceBEq, Nat.reduceAdd, Int.reduceBEq, Int.reduceBNe, Int.reduceLT, Zv, Ya, tup, tyf, Int.natCast_zero]
    rfl
  | succ n ih =>
    intro h v s h6 hl hr hv
    refine ACall.forget (.int _ _) ?_
    have hrow : ∀ i, i < n + 1 → n < (s.getD i []).length ∧ ((s.getD i []).getD n 0 = 0 ∨ (s.getD i []).getD n 0 = 1) := fun i hi => by
      have e2 : s.getD i [] = s[i]'(by omega) := by rw [List.getD, List.getElem?_eq_getElem]; rfl
      obtain ⟨h1, h2⟩ := hr _ (List.getElem_mem (show i < s.length by omega))
      rw [e2]
      have h3 : n < (s[i]'(by omega)).length := by omega
      exact ⟨h3, by rw [List.getD, List.getElem?_eq_getElem h3]; exact h2 _ (List.getElem_mem _)⟩
    have her : ∀ i, i < n + 1 → (s.eraseIdx i).length = n ∧ ∀ r ∈ s.eraseIdx i, n ≤ r.length ∧ ∀ y ∈ r, y = 0 ∨ y = 1 := fun i hi =>
      ⟨by rw [List.length_eraseIdx, if_pos (by omega)]; omega, fun r h => by
        obtain ⟨h1, h2⟩ := hr r (List.mem_of_mem_eraseIdx h)
        exact ⟨by omega, h2⟩⟩
    have habs : ∀ i, i < n + 1 → (Bq.pdet n (s.eraseIdx i)).natAbs ≤ 720 := fun i hi =>
      Nat.le_trans (Bq.pdet_abs n _ (her i hi).1 fun r h => ((her i hi).2 r h).2) (fact_le (by omega))
    have hF : ∀ i, i < n + 1 → (detF n s i).natAbs ≤ 720 := fun i hi => by
      rw [detF, Int.natAbs_mul, Int.natAbs_mul]
      have h3 : (if (i + n) % 2 = 0 then (1 : Int) else -1).natAbs = 1 := by split <;> rfl
      have h4 := habs i hi
      rw [h3, Nat.one_mul]
      rcases (hrow i hi).2 with h5 | h5 <;> rw [h5]
      · simp
      · simpa using h4
    have hsumb : ∀ i, i ≤ n + 1 → (Bq.pdet.isum (detF n s) i).natAbs ≤ 7 * 720 := fun i hi =>
      Nat.le_trans (Bq.isum_abs (f := detF n s) (B := 720) fun j hj => hF j (by omega)) (Nat.mul_le_mul_right _ (by omega))
    have hpd : Bq.pdet (n + 1) s = Bq.pdet.isum (detF n s) (n + 1) := by rw [Bq.pdet, hl]; rfl
    have hn0 : (((n + 1 : Nat) : Int) == 0) = false := by rw [beq_eq_false_iff_ne]; omega
    have hsub : subV .i64 ((n + 1 : Nat) : Int) 1 = ((n : Nat) : Int) := by rw [subV_id (by omega) (by omega)]; omega
    obtain ⟨ws, w1, w2⟩ := hv
    have hwl : ws.length = n + 1 := w2.len.trans hl
    have hnot : ∀ w ∈ ws, notI w = true ∧ one w = true := fun w hw => by obtain ⟨l, hl⟩ := w2.mem w hw; exact intSl_notI hl
    refine s99_callW (by simp) ?_
    simp only [s99]
    refine Yc fun N1 hN1 => ?_
    simp (maxSteps := 2000000) only [s99, ↓Za, ↓Zk, ↓Zs, ↓Zf, ↓Zn, ↓Zt, ↓Ze, ↓Zj, ↓Zg, ↓Zb, ↓Zc, ↓vdn, vup, Zl, Zh, Zi, Zm, Zo, List.map_cons, List.map_nil, cond_true, cond_false, aop, Zw, Zr, Zp, ev, sput, Zu, Zz, Yb, unK, Zd, Zx, Nat.reduceBEq, Nat.reduceAdd, Int.reduceBEq, Int.reduceBNe, Int.reduceLT, Zv, Ya, tup, tyf]
    refine hN1 [(0, v), (1, Zy (n + 1 : Nat)), (4, .int .i64 0)] _ _ ?_ (by simp (maxSteps := 2000000) only [↓Za, ↓Zk, ↓Zs, ↓Zf, ↓Zn, ↓Zt, ↓Ze, ↓Zj, ↓Zg, ↓Zb, ↓Zc, ↓vdn, vup, Zl, Zh, Zi, Zm, Zo, List.map_cons, List.map_nil, cond_true, cond_false, aop, Zw, Zr, Zp, ev, sput, Zu, Zz, Yb, unK, Zd, Zx, Nat.reduceBEq, Nat.reduceAdd, Int.reduceBEq, Int.reduceBNe, Int.reduceLT, Zv, Ya, tup, tyf])
    clear hN1
    try clear N1
    refine Yg fun M hM => ?_
    refine Yc fun N2 hN2 => ?_
    simp (maxSteps := 2000000) only [s99, ↓Za, ↓Zk, ↓Zs, ↓Zf, ↓Zn, ↓Zt, ↓Ze, ↓Zj, ↓Zg, ↓Zb, ↓Zc, ↓vdn, vup, Zl, Zh, Zi, Zm, Zo, List.map_cons, List.map_nil, cond_true, cond_false, aop, Zw, Zr, Zp, ev, sput, Zu, Zz, Yb, unK, Zd, Zx, Nat.reduceBEq, Nat.reduceAdd, Int.reduceBEq, Int.reduceBNe, Int.reduceLT, Zv, Ya, tup, tyf, hn0]
    refine hN2 [(0, v), (1, Zy (n + 1 : Nat)), (4, .int .i64 0), (11, .bool false)] _ _ ?_ (by simp (maxSteps := 2000000) only [↓Za, ↓Zk, ↓Zs, ↓Zf, ↓Zn, ↓Zt, ↓Ze, ↓Zj, ↓Zg, ↓Zb, ↓Zc, ↓vdn, vup, Zl, Zh, Zi, Zm, Zo, List.map_cons, List.map_nil, cond_true, cond_false, aop, Zw, Zr, Zp, ev, sput, Zu, Zz, Yb, unK, Zd, Zx, Nat.reduceBEq, Nat.reduceAdd, Int.reduceBEq, Int.reduceBNe, Int.reduceLT, Zv, Ya, tup, tyf])
    clear hN2
    try clear N2
    refine Yz rfl ?_
    refine Yf ?_
    simp (maxSteps := 2000000) only [s99, ↓Za, ↓Zk, ↓Zs, ↓Zf, ↓Zn, ↓Zt, ↓Ze, ↓Zj, ↓Zg, ↓Zb, ↓Zc, ↓vdn, vup, Zl, Zh, Zi, Zm, Zo, List.map_cons, List.map_nil, cond_true, cond_false, aop, Zw, Zr, Zp, ev, sput, Zu, Zz, Yb, unK, Zd, Zx, Nat.reduceBEq, Nat.reduceAdd, Int.reduceBEq, Int.reduceBNe, Int.reduceLT, Zv, Ya, tup, tyf]
    refine hM [(0, v), (1, Zy (n + 1 : Nat)), (4, .int .i64 0)] _ _ ?_ (by simp (maxSteps := 2000000) only [↓Za, ↓Zk, ↓Zs, ↓Zf, ↓Zn, ↓Zt, ↓Ze, ↓Zj, ↓Zg, ↓Zb, ↓Zc, ↓vdn, vup, Zl, Zh, Zi, Zm, Zo, List.map_cons, List.map_nil, cond_true, cond_false, aop, Zw, Zr, Zp, ev, sput, Zu, Zz, Yb, unK, Zd, Zx, Nat.reduceBEq, Nat.reduceAdd, Int.reduceBEq, Int.reduceBNe, Int.reduceLT, Zv, Ya, tup, tyf])
    clear hM
    try clear M
    refine Yc fun N3 hN3 => ?_
    simp (maxSteps := 2000000) only [s99, ↓Za, ↓Zk, ↓Zs, ↓Zf, ↓Zn, ↓Zt, ↓Ze, ↓Zj, ↓Zg, ↓Zb, ↓Zc, ↓vdn, vup, Zl, Zh, Zi, Zm, Zo, List.map_cons, List.map_nil, cond_true, cond_false, aop, Zw, Zr, Zp, ev, sput, Zu, Zz, Yb, unK, Zd, Zx, Nat.reduceBEq, Nat.reduceAdd, Int.reduceBEq, Int.reduceBNe, Int.reduceLT, Zv, Ya, tup, tyf]
    refine hN3 [(0, v), (1, Zy (n + 1 : Nat)), (4, .int .i64 0), (5, .int .i64 0), (6, .int .i64 1)] _ _ ?_ (by simp (maxSteps := 2000000) only [↓Za, ↓Zk, ↓Zs, ↓Zf, ↓Zn, ↓Zt, ↓Ze, ↓Zj, ↓Zg, ↓Zb, ↓Zc, ↓vdn, vup, Zl, Zh, Zi, Zm, Zo, List.map_cons, List.map_nil, cond_true, cond_false, aop, Zw, Zr, Zp, ev, sput, Zu, Zz, Yb, unK, Zd, Zx, Nat.reduceBEq, Nat.reduceAdd, Int.reduceBEq, Int.reduceBNe, Int.reduceLT, Zv, Ya, tup, tyf])
    clear hN3
    try clear N3
    refine Yg fun Z hZ => ?_
    refine Yc fun N4 hN4 => ?_
    simp (maxSteps := 2000000) only [s99, ↓Za, ↓Zk, ↓Zs, ↓Zf, ↓Zn, ↓Zt, ↓Ze, ↓Zj, ↓Zg, ↓Zb, ↓Zc, ↓vdn, vup, Zl, Zh, Zi, Zm, Zo, List.map_cons, List.map_nil, cond_true, cond_false, aop, Zw, Zr, Zp, ev, sput, Zu, Zz, Yb, unK, Zd, Zx, Nat.reduceBEq, Nat.reduceAdd, Int.reduceBEq, Int.reduceBNe, Int.reduceLT, Zv, Ya, tup, tyf, w1.len, hwl]
    refine hN4 [(0, v), (1, Zy (n + 1 : Nat)), (4, .int .i64 0), (5, .int .i64 0), (6, .int .i64 1), (12, v), (13, Zy (n + 1 : Nat)), (14, .int .i64 0)] _ _ ?_ (by simp (maxSteps := 2000000) only [↓Za, ↓Zk, ↓Zs, ↓Zf, ↓Zn, ↓Zt, ↓Ze, ↓Zj, ↓Zg, ↓Zb, ↓Zc, ↓vdn, vup, Zl, Zh, Zi, Zm, Zo, List.map_cons, List.map_nil, cond_true, cond_false, aop, Zw, Zr, Zp, ev, sput, Zu, Zz, Yb, unK, Zd, Zx, Nat.reduceBEq, Nat.reduceAdd, Int.reduceBEq, Int.reduceBNe, Int.reduceLT, Zv, Ya, tup, tyf])
    clear hN4
    try clear N4
    refine Yo ?_
    refine Yh fun Q hQ => ?_
    refine Xs (γ := Nat × Int × Yd) (fun g => g.1 ≤ n + 1 ∧ Ext (fun _ => False) h g.2.2)
      (fun g => ([(0, v), (1, Zy (n + 1 : Nat)), (4, .int .i64 0), (5, Zy (Bq.pdet.isum (detF n s) g.1)), (6, Zy g.2.1), (12, v), (13, Zy (n + 1 : Nat)), (14, Zy (g.1 : Nat))], g.2.2)) (fun g => n + 1 - g.1) (0, 1, h) ⟨Nat.zero_le _, Ext.refl _ _⟩ (by simp (maxSteps := 2000000) only [↓Za, ↓Zk, ↓Zs, ↓Zf, ↓Zn, ↓Zt, ↓Ze, ↓Zj, ↓Zg, ↓Zb, ↓Zc, ↓vdn, vup, Zl, Zh, Zi, Zm, Zo, List.map_cons, List.map_nil, cond_true, cond_false, aop, Zw, Zr, Zp, ev, sput, Zu, Zz, Yb, unK, Zd, Zx, Nat.reduceBEq, Nat.reduceAdd, Int.reduceBEq, Int.reduceBNe, Int.reduceLT, Zv, Ya, tup, tyf, Int.natCast_zero, show Bq.pdet.isum (detF n s) 0 = 0 from rfl]) rfl ?_
    rintro ⟨i, sg, H⟩ ⟨hi, hE⟩
    simp only at hi hE
    refine Yh fun Q2 hQ2 => ?_
    simp only [l99_0]
    by_cases hin : (i : Int) < ((n + 1 : Nat) : Int)
    · have hi' : i < n + 1 := by omega
      have hiW : i < ws.length := by omega
      have hiS : i < s.length := by omega
      obtain ⟨w, hwd⟩ : ∃ w, w = ws.getD i undef := ⟨_, rfl⟩
      have hw : IntSl H w (s.getD i []) := by
        have := w2.get undef [] hiS
        rw [← hwd] at this
        exact this.same fun b hb => hE.2 b (this.lt hb) id
      obtain ⟨hrl, hr01⟩ := hrow i hi'
      have hsn : Bq.pdet.isum (detF n s) (i + 1) = Bq.pdet.isum (detF n s) i + detF n s i := rfl
      refine Yc fun N5 hN5 => ?_
      simp (maxSteps := 2000000) only [s99, ↓Za, ↓Zk, ↓Zs, ↓Zf, ↓Zn, ↓Zt, ↓Ze, ↓Zj, ↓Zg, ↓Zb, ↓Zc, ↓vdn, vup, Zl, Zh, Zi, Zm, Zo, List.map_cons, List.map_nil, cond_true, cond_false, aop, Zw, Zr, Zp, ev, sput, Zu, Zz, Yb, unK, Zd, Zx, Nat.reduceBEq, Nat.reduceAdd, Int.reduceBEq, Int.reduceBNe, Int.reduceLT, Zv, Ya, tup, tyf, hin]
      refine hN5 [(0, v), (1, Zy (n + 1 : Nat)), (4, .int .i64 0), (5, Zy (Bq.pdet.isum (detF n s) i)), (6, Zy sg), (12, v), (13, Zy (n + 1 : Nat)), (14, Zy (i : Nat)), (15, .bool true)] _ _ ?_ (by simp (maxSteps := 2000000) only [↓Za, ↓Zk, ↓Zs, ↓Zf, ↓Zn, ↓Zt, ↓Ze, ↓Zj, ↓Zg, ↓Zb, ↓Zc, ↓vdn, vup, Zl, Zh, Zi, Zm, Zo, List.map_cons, List.map_nil, cond_true, cond_false, aop, Zw, Zr, Zp, ev, sput, Zu, Zz, Yb, unK, Zd, Zx, Nat.reduceBEq, Nat.reduceAdd, Int.reduceBEq, Int.reduceBNe, Int.reduceLT, Zv, Ya, tup, tyf])
      clear hN5
      try clear N5
      refine Yc fun N6 hN6 => ?_
      simp (maxSteps := 2000000) only [s99, ↓Za, ↓Zk, ↓Zs, ↓Zf, ↓Zn, ↓Zt, ↓Ze, ↓Zj, ↓Zg, ↓Zb, ↓Zc, ↓vdn, vup, Zl, Zh, Zi, Zm, Zo, List.map_cons, List.map_nil, cond_true, cond_false, aop, Zw, Zr, Zp, ev, sput, Zu, Zz, Yb, unK, Zd, Zx, Nat.reduceBEq, Nat.reduceAdd, Int.reduceBEq, Int.reduceBNe, Int.reduceLT, Zv, Ya, tup, tyf]
      refine hN6 [(0, v), (1, Zy (n + 1 : Nat)), (4, .int .i64 0), (5, Zy (Bq.pdet.isum (detF n s) i)), (6, Zy sg), (12, v), (13, Zy (n + 1 : Nat)), (14, Zy (i : Nat))] _ _ ?_ (by simp (maxSteps := 2000000) only [↓Za, ↓Zk, ↓Zs, ↓Zf, ↓Zn, ↓Zt, ↓Ze, ↓Zj, ↓Zg, ↓Zb, ↓Zc, ↓vdn, vup, Zl, Zh, Zi, Zm, Zo, List.map_cons, List.map_nil, cond_true, cond_false, aop, Zw, Zr, Zp, ev, sput, Zu, Zz, Yb, unK, Zd, Zx, Nat.reduceBEq, Nat.reduceAdd, Int.reduceBEq, Int.reduceBNe, Int.reduceLT, Zv, Ya, tup, tyf])
      clear hN6
      try clear N6
      refine Yg fun B hB => ?_
      refine Yo ?_
      refine Yc fun N7 hN7 => ?_
      simp (maxSteps := 2000000) only [s99, ↓Za, ↓Zk, ↓Zs, ↓Zf, ↓Zn, ↓Zt, ↓Ze, ↓Zj, ↓Zg, ↓Zb, ↓Zc, ↓vdn, vup, Zl, Zh, Zi, Zm, Zo, List.map_cons, List.map_nil, cond_true, cond_false, aop, Zw, Zr, Zp, ev, sput, Zu, Zz, Yb, unK, Zd, Zx, Nat.reduceBEq, Nat.reduceAdd, Int.reduceBEq, Int.reduceBNe, Int.reduceLT, Zv, Ya, tup, tyf, w1.idx el_84 esz_22 hiW, (w1.ext hE).load shp_22 hiW, ← hwd]
      refine hN7 [(0, v), (1, Zy (n + 1 : Nat)), (4, .int .i64 0), (5, Zy (Bq.pdet.isum (detF n s) i)), (6, Zy sg), (7, Zy (i : Nat)), (8, w), (12, v), (13, Zy (n + 1 : Nat)), (14, Zy (i : Nat))] _ _ ?_ (by simp (maxSteps := 2000000) only [↓Za, ↓Zk, ↓Zs, ↓Zf, ↓Zn, ↓Zt, ↓Ze, ↓Zj, ↓Zg, ↓Zb, ↓Zc, ↓vdn, vup, Zl, Zh, Zi, Zm, Zo, List.map_cons, List.map_nil, cond_true, cond_false, aop, Zw, Zr, Zp, ev, sput, Zu, Zz, Yb, unK, Zd, Zx, Nat.reduceBEq, Nat.reduceAdd, Int.reduceBEq, Int.reduceBNe, Int.reduceLT, Zv, Ya, tup, tyf])
      clear hN7
      try clear N7
      refine Yc fun N8 hN8 => ?_
      simp (maxSteps := 2000000) only [s99, ↓Za, ↓Zk, ↓Zs, ↓Zf, ↓Zn, ↓Zt, ↓Ze, ↓Zj, ↓Zg, ↓Zb, ↓Zc, ↓vdn, vup, Zl, Zh, Zi, Zm, Zo, List.map_cons, List.map_nil, cond_true, cond_false, aop, Zw, Zr, Zp, ev, sput, Zu, Zz, Yb, unK, Zd, Zx, Nat.reduceBEq, Nat.reduceAdd, Int.reduceBEq, Int.reduceBNe, Int.reduceLT, Zv, Ya, tup, tyf, hsub, hw.idx Xv Xi hrl, hw.load Xl hrl]
      refine hN8 [(0, v), (1, Zy (n + 1 : Nat)), (4, .int .i64 0), (5, Zy (Bq.pdet.isum (detF n s) i)), (6, Zy sg), (7, Zy (i : Nat)), (8, w), (12, v), (13, Zy (n + 1 : Nat)), (14, Zy (i : Nat)), (24, .bool ((s.getD i []).getD n 0 != 0))] _ _ ?_ (by simp (maxSteps := 2000000) only [↓Za, ↓Zk, ↓Zs, ↓Zf, ↓Zn, ↓Zt, ↓Ze, ↓Zj, ↓Zg, ↓Zb, ↓Zc, ↓vdn, vup, Zl, Zh, Zi, Zm, Zo, List.map_cons, List.map_nil, cond_true, cond_false, aop, Zw, Zr, Zp, ev, sput, Zu, Zz, Yb, unK, Zd, Zx, Nat.reduceBEq, Nat.reduceAdd, Int.reduceBEq, Int.reduceBNe, Int.reduceLT, Zv, Ya, tup, tyf])
      clear hN8
      try clear N8
      rcases hr01 with h01 | h01
      · have hz : detF n s i = 0 := by rw [detF, h01, Int.mul_zero, Int.zero_mul]
        rw [hz, Int.add_zero] at hsn
        refine Yz (by rw [h01]; rfl) ?_
        refine Yf ?_
        simp (maxSteps := 2000000) only [s99, ↓Za, ↓Zk, ↓Zs, ↓Zf, ↓Zn, ↓Zt, ↓Ze, ↓Zj, ↓Zg, ↓Zb, ↓Zc, ↓vdn, vup, Zl, Zh, Zi, Zm, Zo, List.map_cons, List.map_nil, cond_true, cond_false, aop, Zw, Zr, Zp, ev, sput, Zu, Zz, Yb, unK, Zd, Zx, Nat.reduceBEq, Nat.reduceAdd, Int.reduceBEq, Int.reduceBNe, Int.reduceLT, Zv, Ya, tup, tyf]
        refine hB [(0, v), (1, Zy (n + 1 : Nat)), (4, .int .i64 0), (5, Zy (Bq.pdet.isum (detF n s) i)), (6, Zy sg), (12, v), (13, Zy (n + 1 : Nat)), (14, Zy (i : Nat))] _ _ ?_ (by simp (maxSteps := 2000000) only [↓Za, ↓Zk, ↓Zs, ↓Zf, ↓Zn, ↓Zt, ↓Ze, ↓Zj, ↓Zg, ↓Zb, ↓Zc, ↓vdn, vup, Zl, Zh, Zi, Zm, Zo, List.map_cons, List.map_nil, cond_true, cond_false, aop, Zw, Zr, Zp, ev, sput, Zu, Zz, Yb, unK, Zd, Zx, Nat.reduceBEq, Nat.reduceAdd, Int.reduceBEq, Int.reduceBNe, Int.reduceLT, Zv, Ya, tup, tyf])
        clear hB
        try clear B
        refine Yf ?_
        simp (maxSteps := 2000000) only [s99, ↓Za, ↓Zk, ↓Zs, ↓Zf, ↓Zn, ↓Zt, ↓Ze, ↓Zj, ↓Zg, ↓Zb, ↓Zc, ↓vdn, vup, Zl, Zh, Zi, Zm, Zo, List.map_cons, List.map_nil, cond_true, cond_false, aop, Zw, Zr, Zp, ev, sput, Zu, Zz, Yb, unK, Zd, Zx, Nat.reduceBEq, Nat.reduceAdd, Int.reduceBEq, Int.reduceBNe, Int.reduceLT, Zv, Ya, tup, tyf, add1 (show i < 9223372036854775807 by omega)]
        exact hQ2 _ _ _ ⟨(i + 1, sg, H), ⟨hi', hE⟩, by simp only; omega, by simp (maxSteps := 2000000) only [↓Za, ↓Zk, ↓Zs, ↓Zf, ↓Zn, ↓Zt, ↓Ze, ↓Zj, ↓Zg, ↓Zb, ↓Zc, ↓vdn, vup, Zl, Zh, Zi, Zm, Zo, List.map_cons, List.map_nil, cond_true, cond_false, aop, Zw, Zr, Zp, ev, sput, Zu, Zz, Yb, unK, Zd, Zx, Nat.reduceBEq, Nat.reduceAdd, Int.reduceBEq, Int.reduceBNe, Int.reduceLT, Zv, Ya, tup, tyf, hsn], rfl⟩
      · have hf : detF n s i = (if (i + n) % 2 = 0 then 1 else -1) * Bq.pdet n (s.eraseIdx i) := by rw [detF, h01, Int.mul_one]
        refine Xq (by rw [h01]; rfl) ?_
        refine Yc fun N9 hN9 => ?_
        simp (maxSteps := 2000000) only [s99, ↓Za, ↓Zk, ↓Zs, ↓Zf, ↓Zn, ↓Zt, ↓Ze, ↓Zj, ↓Zg, ↓Zb, ↓Zc, ↓vdn, vup, Zl, Zh, Zi, Zm, Zo, List.map_cons, List.map_nil, cond_true, cond_false, aop, Zw, Zr, Zp, ev, sput, Zu, Zz, Yb, unK, Zd, Zx, Nat.reduceBEq, Nat.reduceAdd, Int.reduceBEq, Int.reduceBNe, Int.reduceLT, Zv, Ya, tup, tyf]
        refine hN9 [(0, v), (1, Zy (n + 1 : Nat)), (4, .int .i64 0), (5, Zy (Bq.pdet.isum (detF n s) i)), (6, Zy sg), (7, Zy (i : Nat)), (8, w), (9, .slice none 0 0), (12, v), (13, Zy (n + 1 : Nat)), (14, Zy (i : Nat)), (24, .bool ((s.getD i []).getD n 0 != 0))] _ _ ?_ (by simp (maxSteps := 2000000) only [↓Za, ↓Zk, ↓Zs, ↓Zf, ↓Zn, ↓Zt, ↓Ze, ↓Zj, ↓Zg, ↓Zb, ↓Zc, ↓vdn, vup, Zl, Zh, Zi, Zm, Zo, List.map_cons, List.map_nil, cond_true, cond_false, aop, Zw, Zr, Zp, ev, sput, Zu, Zz, Yb, unK, Zd, Zx, Nat.reduceBEq, Nat.reduceAdd, Int.reduceBEq, Int.reduceBNe, Int.reduceLT, Zv, Ya, tup, tyf])
        clear hN9
        try clear N9
        refine Yc fun N10 hN10 => ?_
        refine Wc [] (by kernel_rfl) (by kernel_rfl) (by kernel_rfl) (by kernel_rfl) ?_
        simp (maxSteps := 2000000) only [s99, ↓Za, ↓Zk, ↓Zs, ↓Zf, ↓Zn, ↓Zt, ↓Ze, ↓Zj, ↓Zg, ↓Zb, ↓Zc, ↓vdn, vup, Zl, Zh, Zi, Zm, Zo, List.map_cons, List.map_nil, cond_true, cond_false, aop, Zw, Zr, Zp, ev, sput, Zu, Zz, Yb, unK, Zd, Zx, Nat.reduceBEq, Nat.reduceAdd, Int.reduceBEq, Int.reduceBNe, Int.reduceLT, Zv, Ya, tup, tyf, Option.map_some, Option.map_none]
        refine (w1.ext hE).pre el_84 esz_22 (Nat.le_of_lt hiW) fun u1 hu1 _ => ?_
        refine OwnV.app (ws := []) (.inl ⟨rfl, rfl⟩) app_84_84 hu1 (fun w hw => hnot w (List.take_subset _ _ (by simpa using hw))) (by simp; omega) fun v1 h1 ho1 hE1 hb1 => ?_
        have hE1' : Ext (fun _ => False) H h1 := hE1.mono fun _ h => by cases h
        have hb1' : ∀ b, Yq v1 = some b → H.length ≤ b := fun b hb => by
          rcases hb1 with h2 | ⟨b', h2, h3⟩
          · rw [hb] at h2; cases h2
          · rw [hb] at h2; cases h2; exact h3
        simp (maxSteps := 2000000) only [s99, ↓Za, ↓Zk, ↓Zs, ↓Zf, ↓Zn, ↓Zt, ↓Ze, ↓Zj, ↓Zg, ↓Zb, ↓Zc, ↓vdn, vup, Zl, Zh, Zi, Zm, Zo, List.map_cons, List.map_nil, cond_true, cond_false, aop, Zw, Zr, Zp, ev, sput, Zu, Zz, Yb, unK, Zd, Zx, Nat.reduceBEq, Nat.reduceAdd, Int.reduceBEq, Int.reduceBNe, Int.reduceLT, Zv, Ya, tup, tyf, add1 (show i < 9223372036854775807 by omega), Option.map_some, Option.map_none]
        refine ((w1.ext hE).ext hE1').suf el_84 esz_22 hiW fun u2 hu2 hub2 => ?_
        refine ho1.appS app_84_84 hu2 (fun w hw => by
          rw [List.nil_append] at hw
          rcases List.mem_append.1 hw with hw | hw
          · exact hnot w (List.take_subset _ _ hw)
          · exact hnot w (List.drop_subset _ _ hw)) (by rw [List.nil_append, List.length_take, List.length_drop]; omega) fun v2 h2 ho2 hE2 hb2 => ?_
        rw [List.nil_append, ← List.eraseIdx_eq_take_drop_succ] at ho2
        have hE2' : Ext (fun _ => False) H h2 := ext_own hE1' hb1' hE2
        have hEn : Ext (fun _ => False) h h2 := hE.trans hE2'
        refine hN10 [(0, v), (1, Zy (n + 1 : Nat)), (4, .int .i64 0), (5, Zy (Bq.pdet.isum (detF n s) i)), (6, Zy sg), (7, Zy (i : Nat)), (8, w), (9, v2), (12, v), (13, Zy (n + 1 : Nat)), (14, Zy (i : Nat)), (24, .bool ((s.getD i []).getD n 0 != 0))] _ _ ?_ (by simp (maxSteps := 2000000) only [↓Za, ↓Zk, ↓Zs, ↓Zf, ↓Zn, ↓Zt, ↓Ze, ↓Zj, ↓Zg, ↓Zb, ↓Zc, ↓vdn, vup, Zl, Zh, Zi, Zm, Zo, List.map_cons, List.map_nil, cond_true, cond_false, aop, Zw, Zr, Zp, ev, sput, Zu, Zz, Yb, unK, Zd, Zx, Nat.reduceBEq, Nat.reduceAdd, Int.reduceBEq, Int.reduceBNe, Int.reduceLT, Zv, Ya, tup, tyf])
        clear hN10
        try clear N10
        have hrest : RowsI h2 v2 (s.eraseIdx i) := ⟨_, ho2.val, by
          rw [List.eraseIdx_eq_take_drop_succ, List.eraseIdx_eq_take_drop_succ]
          exact ((Each.take' i w2).app (Each.drop' (i + 1) w2)).imp fun w l hw => hw.same fun b hb => hEn.2 b (hw.lt hb) id⟩
        have hw2 : IntSl h2 w (s.getD i []) := hw.same fun b hb => hE2'.2 b (hw.lt hb) id
        obtain ⟨g, hg⟩ : ∃ g : Int, g = if (i + n) % 2 = 0 then 1 else -1 := ⟨_, rfl⟩
        rw [← hg] at hf
        have hcall := ih (h := h2) (v := v2) (s := s.eraseIdx i) (by omega) (her i hi').1 (her i hi').2 hrest
        have hadd1 : addV .i64 ((i : Nat) : Int) ((n + 1 : Nat) : Int) = ((i + n + 1 : Nat) : Int) := by rw [addV_id (by omega) (by omega)]; omega
        have hsub2 : subV .i64 ((i + n + 1 : Nat) : Int) 1 = ((i + n : Nat) : Int) := by rw [subV_id (by omega) (by omega)]; omega
        have hpar : ((((i + n) % 2 : Nat) : Int) == 0) = decide ((i + n) % 2 = 0) := by
          rw [Bool.eq_iff_iff]; simp; omega
        have ha := habs i hi'
        have hs := hsumb i hi
        have hg1 : g = 1 ∨ g = -1 := by rw [hg]; split <;> simp
        have hm1 : mulV .i64 g 1 = g := by rcases hg1 with h | h <;> rw [h] <;> rfl
        have hm2 : mulV .i64 g (Bq.pdet n (s.eraseIdx i)) = g * Bq.pdet n (s.eraseIdx i) := by
          rcases hg1 with h | h <;> rw [h] <;> exact mulV_id (by omega) (by omega)
        have hm3 : addV .i64 (Bq.pdet.isum (detF n s) i) (g * Bq.pdet n (s.eraseIdx i)) = Bq.pdet.isum (detF n s) (i + 1) := by
          rw [hsn, hf]
          rcases hg1 with h | h <;> rw [h] <;> exact addV_id (by omega) (by omega)
        refine Yg fun A hA => ?_
        refine Yc fun N11 hN11 => ?_
        simp (maxSteps := 2000000) only [s99, ↓Za, ↓Zk, ↓Zs, ↓Zf, ↓Zn, ↓Zt, ↓Ze, ↓Zj, ↓Zg, ↓Zb, ↓Zc, ↓vdn, vup, Zl, Zh, Zi, Zm, Zo, List.map_cons, List.map_nil, cond_true, cond_false, aop, Zw, Zr, Zp, ev, sput, Zu, Zz, Yb, unK, Zd, Zx, Nat.reduceBEq, Nat.reduceAdd, Int.reduceBEq, Int.reduceBNe, Int.reduceLT, Zv, Ya, tup, tyf, hadd1, hsub2, tmod2, hpar, show ((2 : Int) ≠ 0) = True from by simp]
        refine hN11 [(0, v), (1, Zy (n + 1 : Nat)), (4, .int .i64 0), (5, Zy (Bq.pdet.isum (detF n s) i)), (6, Zy sg), (7, Zy (i : Nat)), (8, w), (9, v2), (12, v), (13, Zy (n + 1 : Nat)), (14, Zy (i : Nat)), (24, .bool ((s.getD i []).getD n 0 != 0)), (40, .bool (decide ((i + n) % 2 = 0)))] _ _ ?_ (by simp (maxSteps := 2000000) only [↓Za, ↓Zk, ↓Zs, ↓Zf, ↓Zn, ↓Zt, ↓Ze, ↓Zj, ↓Zg, ↓Zb, ↓Zc, ↓vdn, vup, Zl, Zh, Zi, Zm, Zo, List.map_cons, List.map_nil, cond_true, cond_false, aop, Zw, Zr, Zp, ev, sput, Zu, Zz, Yb, unK, Zd, Zx, Nat.reduceBEq, Nat.reduceAdd, Int.reduceBEq, Int.reduceBNe, Int.reduceLT, Zv, Ya, tup, tyf])
        clear hN11
        try clear N11
        by_cases hp : (i + n) % 2 = 0
        · have hg2 : g = 1 := by rw [hg, if_pos hp]
          rw [decide_eq_true hp]
          refine Xq rfl ?_
          refine Yf ?_
          simp (maxSteps := 2000000) only [s99, ↓Za, ↓Zk, ↓Zs, ↓Zf, ↓Zn, ↓Zt, ↓Ze, ↓Zj, ↓Zg, ↓Zb, ↓Zc, ↓vdn, vup, Zl, Zh, Zi, Zm, Zo, List.map_cons, List.map_nil, cond_true, cond_false, aop, Zw, Zr, Zp, ev, sput, Zu, Zz, Yb, unK, Zd, Zx, Nat.reduceBEq, Nat.reduceAdd, Int.reduceBEq, Int.reduceBNe, Int.reduceLT, Zv, Ya, tup, tyf, show ((1 : Int)) = g from hg2.symm]
          refine hA [(0, v), (1, Zy (n + 1 : Nat)), (4, .int .i64 0), (5, Zy (Bq.pdet.isum (detF n s) i)), (6, Zy g), (7, Zy (i : Nat)), (8, w), (9, v2), (12, v), (13, Zy (n + 1 : Nat)), (14, Zy (i : Nat)), (24, .bool ((s.getD i []).getD n 0 != 0))] _ _ ?_ (by simp (maxSteps := 2000000) only [↓Za, ↓Zk, ↓Zs, ↓Zf, ↓Zn, ↓Zt, ↓Ze, ↓Zj, ↓Zg, ↓Zb, ↓Zc, ↓vdn, vup, Zl, Zh, Zi, Zm, Zo, List.map_cons, List.map_nil, cond_true, cond_false, aop, Zw, Zr, Zp, ev, sput, Zu, Zz, Yb, unK, Zd, Zx, Nat.reduceBEq, Nat.reduceAdd, Int.reduceBEq, Int.reduceBNe, Int.reduceLT, Zv, Ya, tup, tyf])
          clear hA
          try clear A
          refine Yf ?_
          simp only [q99_13]
          refine Wc [(11, 1)] (by kernel_rfl) (by kernel_rfl) (by kernel_rfl) (by kernel_rfl) ?_
          simp (maxSteps := 2000000) only [s99, ↓Za, ↓Zk, ↓Zs, ↓Zf, ↓Zn, ↓Zt, ↓Ze, ↓Zj, ↓Zg, ↓Zb, ↓Zc, ↓vdn, vup, Zl, Zh, Zi, Zm, Zo, List.map_cons, List.map_nil, cond_true, cond_false, aop, Zw, Zr, Zp, ev, sput, Zu, Zz, Yb, unK, Zd, Zx, Nat.reduceBEq, Nat.reduceAdd, Int.reduceBEq, Int.reduceBNe, Int.reduceLT, Zv, Ya, tup, tyf, hsub, hw2.idx Xv Xi hrl, hw2.load Xl hrl, h01, hm1, Yy, List.nil_append, List.append_nil, List.toList_toArray, List.cons_append]
          refine ⟨_, _, hcall, rfl, ?_⟩
          simp (maxSteps := 2000000) only [s99, ↓Za, ↓Zk, ↓Zs, ↓Zf, ↓Zn, ↓Zt, ↓Ze, ↓Zj, ↓Zg, ↓Zb, ↓Zc, ↓vdn, vup, Zl, Zh, Zi, Zm, Zo, List.map_cons, List.map_nil, cond_true, cond_false, aop, Zw, Zr, Zp, ev, sput, Zu, Zz, Yb, unK, Zd, Zx, Nat.reduceBEq, Nat.reduceAdd, Int.reduceBEq, Int.reduceBNe, Int.reduceLT, Zv, Ya, tup, tyf, hm2, hm3]
          refine hB [(0, v), (1, Zy (n + 1 : Nat)), (4, .int .i64 0), (5, Zy (Bq.pdet.isum (detF n s) (i + 1))), (6, Zy g), (12, v), (13, Zy (n + 1 : Nat)), (14, Zy (i : Nat))] _ _ ?_ (by simp (maxSteps := 2000000) only [↓Za, ↓Zk, ↓Zs, ↓Zf, ↓Zn, ↓Zt, ↓Ze, ↓Zj, ↓Zg, ↓Zb, ↓Zc, ↓vdn, vup, Zl, Zh, Zi, Zm, Zo, List.map_cons, List.map_nil, cond_true, cond_false, aop, Zw, Zr, Zp, ev, sput, Zu, Zz, Yb, unK, Zd, Zx, Nat.reduceBEq, Nat.reduceAdd, Int.reduceBEq, Int.reduceBNe, Int.reduceLT, Zv, Ya, tup, tyf])
          clear hB
          try clear B
          refine Yf ?_
          simp (maxSteps := 2000000) only [s99, ↓Za, ↓Zk, ↓Zs, ↓Zf, ↓Zn, ↓Zt, ↓Ze, ↓Zj, ↓Zg, ↓Zb, ↓Zc, ↓vdn, vup, Zl, Zh, Zi, Zm, Zo, List.map_cons, List.map_nil, cond_true, cond_false, aop, Zw, Zr, Zp, ev, sput, Zu, Zz, Yb, unK, Zd, Zx, Nat.reduceBEq, Nat.reduceAdd, Int.reduceBEq, Int.reduceBNe, Int.reduceLT, Zv, Ya, tup, tyf, add1 (show i < 9223372036854775807 by omega)]
          exact hQ2 _ _ _ ⟨(i + 1, g, h2), ⟨hi', hEn⟩, by simp only; omega, by simp (maxSteps := 2000000) only [↓Za, ↓Zk, ↓Zs, ↓Zf, ↓Zn, ↓Zt, ↓Ze, ↓Zj, ↓Zg, ↓Zb, ↓Zc, ↓vdn, vup, Zl, Zh, Zi, Zm, Zo, List.map_cons, List.map_nil, cond_true, cond_false, aop, Zw, Zr, Zp, ev, sput, Zu, Zz, Yb, unK, Zd, Zx, Nat.reduceBEq, Nat.reduceAdd, Int.reduceBEq, Int.reduceBNe, Int.reduceLT, Zv, Ya, tup, tyf], rfl⟩
        · have hg2 : g = -1 := by rw [hg, if_neg hp]
          rw [decide_eq_false hp]
          refine Yz rfl ?_
          refine Yf ?_
          simp (maxSteps := 2000000) only [s99, ↓Za, ↓Zk, ↓Zs, ↓Zf, ↓Zn, ↓Zt, ↓Ze, ↓Zj, ↓Zg, ↓Zb, ↓Zc, ↓vdn, vup, Zl, Zh, Zi, Zm, Zo, List.map_cons, List.map_nil, cond_true, cond_false, aop, Zw, Zr, Zp, ev, sput, Zu, Zz, Yb, unK, Zd, Zx, Nat.reduceBEq, Nat.reduceAdd, Int.reduceBEq, Int.reduceBNe, Int.reduceLT, Zv, Ya, tup, tyf, show ((-1 : Int)) = g from hg2.symm]
          refine hA [(0, v), (1, Zy (n + 1 : Nat)), (4, .int .i64 0), (5, Zy (Bq.pdet.isum (detF n s) i)), (6, Zy g), (7, Zy (i : Nat)), (8, w), (9, v2), (12, v), (13, Zy (n + 1 : Nat)), (14, Zy (i : Nat)), (24, .bool ((s.getD i []).getD n 0 != 0))] _ _ ?_ (by simp (maxSteps := 2000000) only [↓Za, ↓Zk, ↓Zs, ↓Zf, ↓Zn, ↓Zt, ↓Ze, ↓Zj, ↓Zg, ↓Zb, ↓Zc, ↓vdn, vup, Zl, Zh, Zi, Zm, Zo, List.map_cons, List.map_nil, cond_true, cond_false, aop, Zw, Zr, Zp, ev, sput, Zu, Zz, Yb, unK, Zd, Zx, Nat.reduceBEq, Nat.reduceAdd, Int.reduceBEq, Int.reduceBNe, Int.reduceLT, Zv, Ya, tup, tyf])
          clear hA
          try clear A
          refine Yf ?_
          simp only [q99_13]
          refine Wc [(11, 1)] (by kernel_rfl) (by kernel_rfl) (by kernel_rfl) (by kernel_rfl) ?_
          simp (maxSteps := 2000000) only [s99, ↓Za, ↓Zk, ↓Zs, ↓Zf, ↓Zn, ↓Zt, ↓Ze, ↓Zj, ↓Zg, ↓Zb, ↓Zc, ↓vdn, vup, Zl, Zh, Zi, Zm, Zo, List.map_cons, List.map_nil, cond_true, cond_false, aop, Zw, Zr, Zp, ev, sput, Zu, Zz, Yb, unK, Zd, Zx, Nat.reduceBEq, Nat.reduceAdd, Int.reduceBEq, Int.reduceBNe, Int.reduceLT, Zv, Ya, tup, tyf, hsub, hw2.idx Xv Xi hrl, hw2.load Xl hrl, h01, hm1, Yy, List.nil_append, List.append_nil, List.toList_toArray, List.cons_append]
          refine ⟨_, _, hcall, rfl, ?_⟩
          simp (maxSteps := 2000000) only [s99, ↓Za, ↓Zk, ↓Zs, ↓Zf, ↓Zn, ↓Zt, ↓Ze, ↓Zj, ↓Zg, ↓Zb, ↓Zc, ↓vdn, vup, Zl, Zh, Zi, Zm, Zo, List.map_cons, List.map_nil, cond_true, cond_false, aop, Zw, Zr, Zp, ev, sput, Zu, Zz, Yb, unK, Zd, Zx, Nat.reduceBEq, Nat.reduceAdd, Int.reduceBEq, Int.reduceBNe, Int.reduceLT, Zv, Ya, tup, tyf, hm2, hm3]
          refine hB [(0, v), (1, Zy (n + 1 : Nat)), (4, .int .i64 0), (5, Zy (Bq.pdet.isum (detF n s) (i + 1))), (6, Zy g), (12, v), (13, Zy (n + 1 : Nat)), (14, Zy (i : Nat))] _ _ ?_ (by simp (maxSteps := 2000000) only [↓Za, ↓Zk, ↓Zs, ↓Zf, ↓Zn, ↓Zt, ↓Ze, ↓Zj, ↓Zg, ↓Zb, ↓Zc, ↓vdn, vup, Zl, Zh, Zi, Zm, Zo, List.map_cons, List.map_nil, cond_true, cond_false, aop, Zw, Zr, Zp, ev, sput, Zu, Zz, Yb, unK, Zd, Zx, Nat.reduceBEq, Nat.reduceAdd, Int.reduceBEq, Int.reduceBNe, Int.reduceLT, Zv, Ya, tup, tyf])
          clear hB
          try clear B
          refine Yf ?_
          simp (maxSteps := 2000000) only [s99, ↓Za, ↓Zk, ↓Zs, ↓Zf, ↓Zn, ↓Zt, ↓Ze, ↓Zj, ↓Zg, ↓Zb, ↓Zc, ↓vdn, vup, Zl, Zh, Zi, Zm, Zo, List.map_cons, List.map_nil, cond_true, cond_false, aop, Zw, Zr, Zp, ev, sput, Zu, Zz, Yb, unK, Zd, Zx, Nat.reduceBEq, Nat.reduceAdd, Int.reduceBEq, Int.reduceBNe, Int.reduceLT, Zv, Ya, tup, tyf, add1 (show i < 9223372036854775807 by omega)]
          exact hQ2 _ _ _ ⟨(i + 1, g, h2), ⟨hi', hEn⟩, by simp only; omega, by simp (maxSteps := 2000000) only [↓Za, ↓Zk, ↓Zs, ↓Zf, ↓Zn, ↓Zt, ↓Ze, ↓Zj, ↓Zg, ↓Zb, ↓Zc, ↓vdn, vup, Zl, Zh, Zi, Zm, Zo, List.map_cons, List.map_nil, cond_true, cond_false, aop, Zw, Zr, Zp, ev, sput, Zu, Zz, Yb, unK, Zd, Zx, Nat.reduceBEq, Nat.reduceAdd, Int.reduceBEq, Int.reduceBNe, Int.reduceLT, Zv, Ya, tup, tyf], rfl⟩
    obtain rfl : i = n + 1 := by omega
    refine Yc fun N12 hN12 => ?_
    simp (maxSteps := 2000000) only [s99, ↓Za, ↓Zk, ↓Zs, ↓Zf, ↓Zn, ↓Zt, ↓Ze, ↓Zj, ↓Zg, ↓Zb, ↓Zc, ↓vdn, vup, Zl, Zh, Zi, Zm, Zo, List.map_cons, List.map_nil, cond_true, cond_false, aop, Zw, Zr, Zp, ev, sput, Zu, Zz, Yb, unK, Zd, Zx, Nat.reduceBEq, Nat.reduceAdd, Int.reduceBEq, Int.reduceBNe, Int.reduceLT, Zv, Ya, tup, tyf, hin]
    refine hN12 [(0, v), (1, Zy (n + 1 : Nat)), (4, .int .i64 0), (5, Zy (Bq.pdet.isum (detF n s) (n + 1))), (6, Zy sg), (12, v), (13, Zy (n + 1 : Nat)), (14, Zy (n + 1 : Nat)), (15, .bool false)] _ _ ?_ (by simp (maxSteps := 2000000) only [↓Za, ↓Zk, ↓Zs, ↓Zf, ↓Zn, ↓Zt, ↓Ze, ↓Zj, ↓Zg, ↓Zb, ↓Zc, ↓vdn, vup, Zl, Zh, Zi, Zm, Zo, List.map_cons, List.map_nil, cond_true, cond_false, aop, Zw, Zr, Zp, ev, sput, Zu, Zz, Yb, unK, Zd, Zx, Nat.reduceBEq, Nat.reduceAdd, Int.reduceBEq, Int.reduceBNe, Int.reduceLT, Zv, Ya, tup, tyf])
    clear hN12
    try clear N12
    refine Yc fun N13 hN13 => ?_
    simp (maxSteps := 2000000) only [s99, ↓Za, ↓Zk, ↓Zs, ↓Zf, ↓Zn, ↓Zt, ↓Ze, ↓Zj, ↓Zg, ↓Zb, ↓Zc, ↓vdn, vup, Zl, Zh, Zi, Zm, Zo, List.map_cons, List.map_nil, cond_true, cond_false, aop, Zw, Zr, Zp, ev, sput, Zu, Zz, Yb, unK, Zd, Zx, Nat.reduceBEq, Nat.reduceAdd, Int.reduceBEq, Int.reduceBNe, Int.reduceLT, Zv, Ya, tup, tyf]
    refine hQ2 _ _ _ (hQ _ _ _ ?_)
    simp (maxSteps := 2000000) only [s99, ↓Za, ↓Zk, ↓Zs, ↓Zf, ↓Zn, ↓Zt, ↓Ze, ↓Zj, ↓Zg, ↓Zb, ↓Zc, ↓vdn, vup, Zl, Zh, Zi, Zm, Zo, List.map_cons, List.map_nil, cond_true, cond_false, aop, Zw, Zr, Zp, ev, sput, Zu, Zz, Yb, unK, Zd, Zx, Nat.reduceBEq, Nat.reduceAdd, Int.reduceBEq, Int.reduceBNe, Int.reduceLT, Zv, Ya, tup, tyf, if_true]
    refine hZ [(0, v), (1, Zy (n + 1 : Nat)), (4, .int .i64 0), (5, Zy (Bq.pdet.isum (detF n s) (n + 1))), (6, Zy sg)] _ _ ?_ (by simp (maxSteps := 2000000) only [↓Za, ↓Zk, ↓Zs, ↓Zf, ↓Zn, ↓Zt, ↓Ze, ↓Zj, ↓Zg, ↓Zb, ↓Zc, ↓vdn, vup, Zl, Zh, Zi, Zm, Zo, List.map_cons, List.map_nil, cond_true, cond_false, aop, Zw, Zr, Zp, ev, sput, Zu, Zz, Yb, unK, Zd, Zx, Nat.reduceBEq, Nat.reduceAdd, Int.reduceBEq, Int.reduceBNe, Int.reduceLT, Zv, Ya, tup, tyf])
    clear hZ
    try clear Z
    refine Yf ?_
    simp (maxSteps := 2000000) only [s99, ↓Za, ↓Zk, ↓Zs, ↓Zf, ↓Zn, ↓Zt, ↓Ze, ↓Zj, ↓Zg, ↓Zb, ↓Zc, ↓vdn, vup, Zl, Zh, Zi, Zm, Zo, List.map_cons, List.map_nil, cond_true, cond_false, aop, Zw, Zr, Zp, ev, sput, Zu, Zz, Yb, unK, Zd, Zx, Nat.reduceBEq, Nat.reduceAdd, Int.reduceBEq, Int.reduceBNe, Int.reduceLT, Zv, Ya, tup, tyf]
    exact ⟨by rw [hpd], hE⟩
end Go.Proofs.Tryd.Am

namespace Go.Proofs.Tryd.Am
open Go.Am Sr
set_option maxRecDepth 100000
set_option maxHeartbeats 1000000

theorem fresh_rsi {h : Yd} {xs : List Int} : RSI h (h ++ [.ints [] 3 false] ++ [.ints xs 3 false]) (.slice (some ⟨h.length + 1, 0, some 0⟩) xs.length xs.length) xs :=
  ⟨.inr ⟨h.length + 1, [], by simp, by
    have := Xp (h ++ [.ints [] 3 false]) (.ints xs 3 false)
    rw [List.length_append, List.length_singleton] at this
    rw [List.append_nil]; exact this⟩, (Ext.app _ _ _).trans (Ext.app _ _ _), fun b hb => by
    simp only [Yq, Option.some.injEq] at hb; omega⟩
theorem clone_rsi [Tabs prog] {h : Yd} {v : Value} {xs : List Int} (hv : IntSl h v xs) (hx : xs ≠ []) (hl : xs.length < 1099511627776) : ACall prog 26 [v] h fun r h' => RSI h h' r xs := by
  refine s26_call (by simp) ?_
  have hv' := hv
  rcases hv with ⟨rfl, rfl⟩ | ⟨b, o, sp, cap, c, e, ro, rfl, hc, hb, _⟩
  · exact absurd rfl hx
  · simp (maxSteps := 2000000) only [s26, ↓Za, ↓Zk, ↓Zs, ↓Zf, ↓Zn, ↓Zt, ↓Ze, ↓Zj, ↓Zg, ↓Zb, ↓Zc, ↓vdn, vup, Zl, Zh, Zi, Zm, Zo, List.map_cons, List.map_nil, cond_true, cond_false, aop, Zw, Zr, Zp, ev, sput, Zu, Zz, Yb, unK, Zd, Zx, Nat.reduceBEq, Nat.reduceAdd, Int.reduceBEq, Int.reduceBNe, Int.reduceLT, Zv, Ya, tup, tyf, Option.isSome_some]
    simp only [Yt, Xv, zero_3, Xi, reps, fillL, mkb, Xk]
    refine And.intro rfl (And.intro Nat.zero_lt_one (And.intro (Nat.zero_le _) ?_))
    refine (hv'.grow [.ints [] 3 false]).copyOwn hx app_22_22 hl (by rw [List.getElem?_append_right (Nat.le_refl _)]; simp) ?_
    have := fresh_rsi (h := h) (xs := xs)
    simpa using this

end Go.Proofs.Tryd.Am

namespace Go.Proofs.Tryd.Am
open Go.Am
set_option maxRecDepth 100000
set_option maxHeartbeats 4000000

theorem ownSl_store {h : Yd} {v : Value} {xs : List Int} {j : Nat} {x : Int} (ho : OwnSl 3 h v xs) (hj : j < xs.length) {K : Yd → Prop} (hk : ∀ h', OwnSl 3 h' v (xs.set j x) → Ext (fun i => Yq v = some i) h h' → K h') : Xu prog h 3 (Wo v 1 j) (Zy x) K := by
  rcases ho with ⟨rfl, rfl⟩ | ⟨b, ys, rfl, hb⟩
  · simp at hj
  · have hjl : j < (xs ++ ys).length := by rw [List.length_append]; omega
    simp only [Wo, Nat.zero_add, Nat.mul_one]
    rw [storeBI hb Xl hjl, List.set_append_left _ _ hj]
    exact hk _ (.inr ⟨b, ys, by rw [List.length_set], by rw [List.getElem?_set_self (Xg hb)]⟩) (Ext.set _ rfl)
theorem RSI.ext {h0 h h' : Yd} {v : Value} {xs : List Int} (o : RSI h0 h v xs) (hE : Ext (fun _ => False) h h') : RSI h0 h' v xs := ⟨o.1.ext (S := fun _ => False) hE fun _ _ => id, o.2.1.trans hE, o.2.2⟩
theorem rowsI_of {h : Yd} {v : Value} {rows : List (List Int)} (o : OwnL 22 3 h v rows) : RowsI h v rows := by
  obtain ⟨ws, h1, h2⟩ := o
  exact ⟨ws, h1.val, h2.imp fun w l hw => hw.int⟩
def numT (n : Nat) (s : List (List Int)) (k : Nat) : List Int := (List.range k).map fun j => Bq.pdet n (s.map (Bq.putR n j))
def numL (n : Nat) (s : List (List Int)) : List Int := if Bq.pdet n s < 0 then (numT n s n).map (- ·) else numT n s n
theorem numT_len (n : Nat) (s : List (List Int)) (k : Nat) : (numT n s k).length = k := by simp [numT]
theorem numT_succ (n : Nat) (s : List (List Int)) (k : Nat) : numT n s (k + 1) = numT n s k ++ [Bq.pdet n (s.map (Bq.putR n k))] := by rw [numT, List.range_succ, List.map_append]; rfl
theorem numT_get {n : Nat} {s : List (List Int)} {k j : Nat} (h : j < k) : (numT n s k).getD j 0 = Bq.pdet n (s.map (Bq.putR n j)) := by
  rw [numT, List.getD, List.getElem?_map, List.getElem?_range h]; rfl
def ngT (xs : List Int) (k : Nat) : List Int := (xs.take k).map (- ·) ++ xs.drop k
theorem ngT_len (xs : List Int) (k : Nat) : (ngT xs k).length = xs.length := by simp [ngT]; omega
theorem ngT_get {xs : List Int} {k : Nat} (h : k < xs.length) : (ngT xs k).getD k 0 = xs.getD k 0 := by
  rw [ngT, List.getD, List.getElem?_append_right (by rw [List.length_map, List.length_take]; omega)]
  simp only [List.length_map, List.length_take, List.getElem?_drop]
  rw [show k + (k - min k xs.length) = k by omega, List.getD]
theorem ngT_set {xs : List Int} {k : Nat} (h : k < xs.length) : (ngT xs k).set k (- xs.getD k 0) = ngT xs (k + 1) := by
  have hd : xs.drop k = xs.getD k 0 :: xs.drop (k + 1) := by
    rw [List.drop_eq_getElem_cons h, List.getD, List.getElem?_eq_getElem h]; rfl
  have hl : ((xs.take k).map (- ·)).length = k := by rw [List.length_map, List.length_take]; omega
  rw [ngT, hd, List.set_append_right _ _ (by omega), hl, Nat.sub_self, List.set_cons_zero, ngT, List.take_succ, List.map_append, List.getElem?_eq_getElem h, List.append_assoc]
  simp [List.getD, List.getElem?_eq_getElem h]

theorem s86_callW [Tabs Tryd.prog] {args : List Value} {h : Yd} {Q : Value → Yd → Prop} (hsz : args.length ≤ 69) (hk : AWS Tryd.prog 69 s86 (Zv Tryd.prog [.tmp 2, .tmp 3, .tmp 4] Q) (Zp 0 args) h) : ACall Tryd.prog 86 args h Q :=
  Wb Tryd.func86 rfl (enters_of Tryd.func86 (by kernel_rfl) rfl) rfl rfl (by decide) s86_strip s86_ok hsz hk
theorem solve_call [Tabs prog] {n : Nat} {h : Yd} {v : Value} {s : List (List Int)} (h6 : n ≤ 6) (hl : s.length = n) (hr : ∀ r ∈ s, r.length = n + 1 ∧ ∀ y ∈ r, y = 0 ∨ y = 1) (hv : RowsI h v s) :
    ACall prog 86 [v] h fun r h' => Ext (fun _ => False) h h' ∧ if Bq.pdet n s = 0 then r = .tuple #[.slice none 0 0, .int .i64 0, .bool false] else ∃ w, r = .tuple #[w, Zy (Bq.pdet n s).natAbs, .bool true] ∧ IntSl h' w (numL n s) := by
  have hr1 : ∀ r ∈ s, n ≤ r.length ∧ ∀ y ∈ r, y = 0 ∨ y = 1 := fun r h => ⟨by rw [(hr r h).1]; omega, (hr r h).2⟩
  have hput : ∀ j r, r ∈ s → j < n → (Bq.putR n j r).length = n + 1 ∧ ∀ y ∈ Bq.putR n j r, y = 0 ∨ y = 1 := fun j r hm hj => by
    obtain ⟨e1, e2⟩ := hr r hm
    refine ⟨by rw [Bq.putR, List.length_set, e1], fun y hy => ?_⟩
    rw [Bq.putR] at hy
    rcases List.mem_or_eq_of_mem_set hy with h | h
    · exact e2 y h
    · rw [h, List.getD, List.getElem?_eq_getElem (by omega)]; exact e2 _ (List.getElem_mem _)
  have hpm : ∀ j, j < n → (s.map (Bq.putR n j)).length = n ∧ ∀ r ∈ s.map (Bq.putR n j), n ≤ r.length ∧ ∀ y ∈ r, y = 0 ∨ y = 1 := fun j hj => ⟨by rw [List.length_map, hl], fun r hm => by
    obtain ⟨r', h1, rfl⟩ := List.mem_map.1 hm
    obtain ⟨e1, e2⟩ := hput j r' h1 hj
    exact ⟨by omega, e2⟩⟩
  have habs : ∀ j, j < n → (Bq.pdet n (s.map (Bq.putR n j))).natAbs ≤ 720 := fun j hj => Nat.le_trans (Bq.pdet_abs n _ (hpm j hj).1 fun r h => ((hpm j hj).2 r h).2) (fact_le h6)
  have hab : (Bq.pdet n s).natAbs ≤ 720 := Nat.le_trans (Bq.pdet_abs n _ hl fun r h => (hr r h).2) (fact_le h6)
  obtain ⟨ws, w1, w2⟩ := id hv
  have hwl : ws.length = n := w2.len.trans hl
  obtain ⟨d, hd⟩ : ∃ d, Bq.pdet n s = d := ⟨_, rfl⟩
  refine s86_callW (by simp) ?_
  simp only [s86]
  refine Yc fun N1 hN1 => ?_
  simp (maxSteps := 2000000) only [s86, ↓Za, ↓Zk, ↓Zs, ↓Zf, ↓Zn, ↓Zt, ↓Ze, ↓Zj, ↓Zg, ↓Zb, ↓Zc, ↓vdn, vup, Zl, Zh, Zi, Zm, Zo, List.map_cons, List.map_nil, cond_true, cond_false, aop, Zw, Zr, Zp, ev, sput, Zu, Zz, Yb, unK, Zd, Zx, Nat.reduceBEq, Nat.reduceAdd, Int.reduceBEq, Int.reduceBNe, Int.reduceLT, Zv, Ya, tup, tyf]
  refine hN1 [(0, v), (2, .slice none 0 0), (3, .int .i64 0), (4, .bool false)] _ _ ?_ (by simp (maxSteps := 2000000) only [↓Za, ↓Zk, ↓Zs, ↓Zf, ↓Zn, ↓Zt, ↓Ze, ↓Zj, ↓Zg, ↓Zb, ↓Zc, ↓vdn, vup, Zl, Zh, Zi, Zm, Zo, List.map_cons, List.map_nil, cond_true, cond_false, aop, Zw, Zr, Zp, ev, sput, Zu, Zz, Yb, unK, Zd, Zx, Nat.reduceBEq, Nat.reduceAdd, Int.reduceBEq, Int.reduceBNe, Int.reduceLT, Zv, Ya, tup, tyf])
  clear hN1
  try clear N1
  refine Yc fun N2 hN2 => ?_
  simp (maxSteps := 2000000) only [s86, ↓Za, ↓Zk, ↓Zs, ↓Zf, ↓Zn, ↓Zt, ↓Ze, ↓Zj, ↓Zg, ↓Zb, ↓Zc, ↓vdn, vup, Zl, Zh, Zi, Zm, Zo, List.map_cons, List.map_nil, cond_true, cond_false, aop, Zw, Zr, Zp, ev, sput, Zu, Zz, Yb, unK, Zd, Zx, Nat.reduceBEq, Nat.reduceAdd, Int.reduceBEq, Int.reduceBNe, Int.reduceLT, Zv, Ya, tup, tyf, w1.len, hwl]
  refine hN2 [(0, v), (2, .slice none 0 0), (3, .int .i64 0), (4, .bool false), (5, Zy (n : Nat))] _ _ ?_ (by simp (maxSteps := 2000000) only [↓Za, ↓Zk, ↓Zs, ↓Zf, ↓Zn, ↓Zt, ↓Ze, ↓Zj, ↓Zg, ↓Zb, ↓Zc, ↓vdn, vup, Zl, Zh, Zi, Zm, Zo, List.map_cons, List.map_nil, cond_true, cond_false, aop, Zw, Zr, Zp, ev, sput, Zu, Zz, Yb, unK, Zd, Zx, Nat.reduceBEq, Nat.reduceAdd, Int.reduceBEq, Int.reduceBNe, Int.reduceLT, Zv, Ya, tup, tyf])
  clear hN2
  try clear N2
  refine Yc fun N3 hN3 => ?_
  simp (maxSteps := 2000000) only [s86, ↓Za, ↓Zk, ↓Zs, ↓Zf, ↓Zn, ↓Zt, ↓Ze, ↓Zj, ↓Zg, ↓Zb, ↓Zc, ↓vdn, vup, Zl, Zh, Zi, Zm, Zo, List.map_cons, List.map_nil, cond_true, cond_false, aop, Zw, Zr, Zp, ev, sput, Zu, Zz, Yb, unK, Zd, Zx, Nat.reduceBEq, Nat.reduceAdd, Int.reduceBEq, Int.reduceBNe, Int.reduceLT, Zv, Ya, tup, tyf, Yy, List.nil_append, List.append_nil, List.toList_toArray, List.cons_append]
  refine (det_call n h6 hl hr1 hv).mono ?_
  rintro _ h ⟨rfl, rfl⟩
  rw [hd]
  refine hN3 [(0, v), (2, .slice none 0 0), (3, Zy d), (4, .bool false), (5, Zy (n : Nat))] _ _ ?_ (by simp (maxSteps := 2000000) only [↓Za, ↓Zk, ↓Zs, ↓Zf, ↓Zn, ↓Zt, ↓Ze, ↓Zj, ↓Zg, ↓Zb, ↓Zc, ↓vdn, vup, Zl, Zh, Zi, Zm, Zo, List.map_cons, List.map_nil, cond_true, cond_false, aop, Zw, Zr, Zp, ev, sput, Zu, Zz, Yb, unK, Zd, Zx, Nat.reduceBEq, Nat.reduceAdd, Int.reduceBEq, Int.reduceBNe, Int.reduceLT, Zv, Ya, tup, tyf])
  clear hN3
  try clear N3
  rw [hd] at hab
  refine Yg fun M hM => ?_
  refine Yc fun N4 hN4 => ?_
  simp (maxSteps := 2000000) only [s86, ↓Za, ↓Zk, ↓Zs, ↓Zf, ↓Zn, ↓Zt, ↓Ze, ↓Zj, ↓Zg, ↓Zb, ↓Zc, ↓vdn, vup, Zl, Zh, Zi, Zm, Zo, List.map_cons, List.map_nil, cond_true, cond_false, aop, Zw, Zr, Zp, ev, sput, Zu, Zz, Yb, unK, Zd, Zx, Nat.reduceBEq, Nat.reduceAdd, Int.reduceBEq, Int.reduceBNe, Int.reduceLT, Zv, Ya, tup, tyf]
  refine hN4 [(0, v), (2, .slice none 0 0), (3, Zy d), (4, .bool false), (5, Zy (n : Nat)), (17, .bool (d == 0))] _ _ ?_ (by simp (maxSteps := 2000000) only [↓Za, ↓Zk, ↓Zs, ↓Zf, ↓Zn, ↓Zt, ↓Ze, ↓Zj, ↓Zg, ↓Zb, ↓Zc, ↓vdn, vup, Zl, Zh, Zi, Zm, Zo, List.map_cons, List.map_nil, cond_true, cond_false, aop, Zw, Zr, Zp, ev, sput, Zu, Zz, Yb, unK, Zd, Zx, Nat.reduceBEq, Nat.reduceAdd, Int.reduceBEq, Int.reduceBNe, Int.reduceLT, Zv, Ya, tup, tyf])
  clear hN4
  try clear N4
  by_cases hd0 : d = 0
  · have hb : (d == 0) = true := by rw [hd0]; rfl
    rw [hb]
    refine Xq rfl ?_
    refine Yf ?_
    simp (maxSteps := 2000000) only [s86, ↓Za, ↓Zk, ↓Zs, ↓Zf, ↓Zn, ↓Zt, ↓Ze, ↓Zj, ↓Zg, ↓Zb, ↓Zc, ↓vdn, vup, Zl, Zh, Zi, Zm, Zo, List.map_cons, List.map_nil, cond_true, cond_false, aop, Zw, Zr, Zp, ev, sput, Zu, Zz, Yb, unK, Zd, Zx, Nat.reduceBEq, Nat.reduceAdd, Int.reduceBEq, Int.reduceBNe, Int.reduceLT, Zv, Ya, tup, tyf]
    refine ⟨Ext.refl _ _, by rw [if_pos (hd.trans hd0)]; trivial⟩
  have hb : (d == 0) = false := by rw [beq_eq_false_iff_ne]; exact hd0
  rw [hb]
  refine Yz rfl ?_
  refine Yf ?_
  simp (maxSteps := 2000000) only [s86, ↓Za, ↓Zk, ↓Zs, ↓Zf, ↓Zn, ↓Zt, ↓Ze, ↓Zj, ↓Zg, ↓Zb, ↓Zc, ↓vdn, vup, Zl, Zh, Zi, Zm, Zo, List.map_cons, List.map_nil, cond_true, cond_false, aop, Zw, Zr, Zp, ev, sput, Zu, Zz, Yb, unK, Zd, Zx, Nat.reduceBEq, Nat.reduceAdd, Int.reduceBEq, Int.reduceBNe, Int.reduceLT, Zv, Ya, tup, tyf]
  refine hM [(0, v), (2, .slice none 0 0), (3, Zy d), (4, .bool false), (5, Zy (n : Nat))] _ _ ?_ (by simp (maxSteps := 2000000) only [↓Za, ↓Zk, ↓Zs, ↓Zf, ↓Zn, ↓Zt, ↓Ze, ↓Zj, ↓Zg, ↓Zb, ↓Zc, ↓vdn, vup, Zl, Zh, Zi, Zm, Zo, List.map_cons, List.map_nil, cond_true, cond_false, aop, Zw, Zr, Zp, ev, sput, Zu, Zz, Yb, unK, Zd, Zx, Nat.reduceBEq, Nat.reduceAdd, Int.reduceBEq, Int.reduceBNe, Int.reduceLT, Zv, Ya, tup, tyf])
  clear hM
  try clear M
  refine Yg fun Z hZ => ?_
  refine Yc fun N5 hN5 => ?_
  simp (maxSteps := 2000000) only [s86, ↓Za, ↓Zk, ↓Zs, ↓Zf, ↓Zn, ↓Zt, ↓Ze, ↓Zj, ↓Zg, ↓Zb, ↓Zc, ↓vdn, vup, Zl, Zh, Zi, Zm, Zo, List.map_cons, List.map_nil, cond_true, cond_false, aop, Zw, Zr, Zp, ev, sput, Zu, Zz, Yb, unK, Zd, Zx, Nat.reduceBEq, Nat.reduceAdd, Int.reduceBEq, Int.reduceBNe, Int.reduceLT, Zv, Ya, tup, tyf]
  refine hN5 [(0, v), (2, .slice none 0 0), (3, Zy d), (4, .bool false), (5, Zy (n : Nat)), (18, Zy (n : Nat)), (19, .int .i64 0)] _ _ ?_ (by simp (maxSteps := 2000000) only [↓Za, ↓Zk, ↓Zs, ↓Zf, ↓Zn, ↓Zt, ↓Ze, ↓Zj, ↓Zg, ↓Zb, ↓Zc, ↓vdn, vup, Zl, Zh, Zi, Zm, Zo, List.map_cons, List.map_nil, cond_true, cond_false, aop, Zw, Zr, Zp, ev, sput, Zu, Zz, Yb, unK, Zd, Zx, Nat.reduceBEq, Nat.reduceAdd, Int.reduceBEq, Int.reduceBNe, Int.reduceLT, Zv, Ya, tup, tyf])
  clear hN5
  try clear N5
  refine Yo ?_
  refine Yh fun Q hQ => ?_
  refine Xs (γ := Nat × Value × Yd) (fun g => g.1 ≤ n ∧ RSI h g.2.2 g.2.1 (numT n s g.1))
    (fun g => ([(0, v), (2, g.2.1), (3, Zy d), (4, .bool false), (5, Zy (n : Nat)), (18, Zy (n : Nat)), (19, Zy (g.1 : Nat))], g.2.2)) (fun g => n - g.1) (0, .slice none 0 0, h) ⟨Nat.zero_le _, RSI.nil h⟩ (by simp (maxSteps := 2000000) only [↓Za, ↓Zk, ↓Zs, ↓Zf, ↓Zn, ↓Zt, ↓Ze, ↓Zj, ↓Zg, ↓Zb, ↓Zc, ↓vdn, vup, Zl, Zh, Zi, Zm, Zo, List.map_cons, List.map_nil, cond_true, cond_false, aop, Zw, Zr, Zp, ev, sput, Zu, Zz, Yb, unK, Zd, Zx, Nat.reduceBEq, Nat.reduceAdd, Int.reduceBEq, Int.reduceBNe, Int.reduceLT, Zv, Ya, tup, tyf, Int.natCast_zero]) rfl ?_
  rintro ⟨j, nv, H⟩ ⟨hj, hnv⟩
  simp only at hj hnv
  have hE := hnv.2.1
  refine Yh fun Q2 hQ2 => ?_
  simp only [l86_1]
  by_cases hjn : (j : Int) < n
  · have hj' : j < n := by omega
    refine Yc fun N6 hN6 => ?_
    simp (maxSteps := 2000000) only [s86, ↓Za, ↓Zk, ↓Zs, ↓Zf, ↓Zn, ↓Zt, ↓Ze, ↓Zj, ↓Zg, ↓Zb, ↓Zc, ↓vdn, vup, Zl, Zh, Zi, Zm, Zo, List.map_cons, List.map_nil, cond_true, cond_false, aop, Zw, Zr, Zp, ev, sput, Zu, Zz, Yb, unK, Zd, Zx, Nat.reduceBEq, Nat.reduceAdd, Int.reduceBEq, Int.reduceBNe, Int.reduceLT, Zv, Ya, tup, tyf, hjn]
    refine hN6 [(0, v), (2, nv), (3, Zy d), (4, .bool false), (5, Zy (n : Nat)), (18, Zy (n : Nat)), (19, Zy (j : Nat)), (20, .bool true)] _ _ ?_ (by simp (maxSteps := 2000000) only [↓Za, ↓Zk, ↓Zs, ↓Zf, ↓Zn, ↓Zt, ↓Ze, ↓Zj, ↓Zg, ↓Zb, ↓Zc, ↓vdn, vup, Zl, Zh, Zi, Zm, Zo, List.map_cons, List.map_nil, cond_true, cond_false, aop, Zw, Zr, Zp, ev, sput, Zu, Zz, Yb, unK, Zd, Zx, Nat.reduceBEq, Nat.reduceAdd, Int.reduceBEq, Int.reduceBNe, Int.reduceLT, Zv, Ya, tup, tyf])
    clear hN6
    try clear N6
    refine Yc fun N7 hN7 => ?_
    simp (maxSteps := 2000000) only [s86, ↓Za, ↓Zk, ↓Zs, ↓Zf, ↓Zn, ↓Zt, ↓Ze, ↓Zj, ↓Zg, ↓Zb, ↓Zc, ↓vdn, vup, Zl, Zh, Zi, Zm, Zo, List.map_cons, List.map_nil, cond_true, cond_false, aop, Zw, Zr, Zp, ev, sput, Zu, Zz, Yb, unK, Zd, Zx, Nat.reduceBEq, Nat.reduceAdd, Int.reduceBEq, Int.reduceBNe, Int.reduceLT, Zv, Ya, tup, tyf]
    refine hN7 [(0, v), (2, nv), (3, Zy d), (4, .bool false), (5, Zy (n : Nat)), (18, Zy (n : Nat)), (19, Zy (j : Nat))] _ _ ?_ (by simp (maxSteps := 2000000) only [↓Za, ↓Zk, ↓Zs, ↓Zf, ↓Zn, ↓Zt, ↓Ze, ↓Zj, ↓Zg, ↓Zb, ↓Zc, ↓vdn, vup, Zl, Zh, Zi, Zm, Zo, List.map_cons, List.map_nil, cond_true, cond_false, aop, Zw, Zr, Zp, ev, sput, Zu, Zz, Yb, unK, Zd, Zx, Nat.reduceBEq, Nat.reduceAdd, Int.reduceBEq, Int.reduceBNe, Int.reduceLT, Zv, Ya, tup, tyf])
    clear hN7
    try clear N7
    refine Yg fun B hB => ?_
    refine Yo ?_
    refine Yc fun N8 hN8 => ?_
    simp (maxSteps := 2000000) only [s86, ↓Za, ↓Zk, ↓Zs, ↓Zf, ↓Zn, ↓Zt, ↓Ze, ↓Zj, ↓Zg, ↓Zb, ↓Zc, ↓vdn, vup, Zl, Zh, Zi, Zm, Zo, List.map_cons, List.map_nil, cond_true, cond_false, aop, Zw, Zr, Zp, ev, sput, Zu, Zz, Yb, unK, Zd, Zx, Nat.reduceBEq, Nat.reduceAdd, Int.reduceBEq, Int.reduceBNe, Int.reduceLT, Zv, Ya, tup, tyf]
    refine hN8 [(0, v), (2, nv), (3, Zy d), (4, .bool false), (5, Zy (n : Nat)), (6, Zy (j : Nat)), (18, Zy (n : Nat)), (19, Zy (j : Nat))] _ _ ?_ (by simp (maxSteps := 2000000) only [↓Za, ↓Zk, ↓Zs, ↓Zf, ↓Zn, ↓Zt, ↓Ze, ↓Zj, ↓Zg, ↓Zb, ↓Zc, ↓vdn, vup, Zl, Zh, Zi, Zm, Zo, List.map_cons, List.map_nil, cond_true, cond_false, aop, Zw, Zr, Zp, ev, sput, Zu, Zz, Yb, unK, Zd, Zx, Nat.reduceBEq, Nat.reduceAdd, Int.reduceBEq, Int.reduceBNe, Int.reduceLT, Zv, Ya, tup, tyf])
    clear hN8
    try clear N8
    refine Yc fun N9 hN9 => ?_
    simp (maxSteps := 2000000) only [s86, ↓Za, ↓Zk, ↓Zs, ↓Zf, ↓Zn, ↓Zt, ↓Ze, ↓Zj, ↓Zg, ↓Zb, ↓Zc, ↓vdn, vup, Zl, Zh, Zi, Zm, Zo, List.map_cons, List.map_nil, cond_true, cond_false, aop, Zw, Zr, Zp, ev, sput, Zu, Zz, Yb, unK, Zd, Zx, Nat.reduceBEq, Nat.reduceAdd, Int.reduceBEq, Int.reduceBNe, Int.reduceLT, Zv, Ya, tup, tyf]
    refine hN9 [(0, v), (2, nv), (3, Zy d), (4, .bool false), (5, Zy (n : Nat)), (6, Zy (j : Nat)), (7, .slice none 0 0), (18, Zy (n : Nat)), (19, Zy (j : Nat))] _ _ ?_ (by simp (maxSteps := 2000000) only [↓Za, ↓Zk, ↓Zs, ↓Zf, ↓Zn, ↓Zt, ↓Ze, ↓Zj, ↓Zg, ↓Zb, ↓Zc, ↓vdn, vup, Zl, Zh, Zi, Zm, Zo, List.map_cons, List.map_nil, cond_true, cond_false, aop, Zw, Zr, Zp, ev, sput, Zu, Zz, Yb, unK, Zd, Zx, Nat.reduceBEq, Nat.reduceAdd, Int.reduceBEq, Int.reduceBNe, Int.reduceLT, Zv, Ya, tup, tyf])
    clear hN9
    try clear N9
    refine Yg fun A hA => ?_
    refine Yc fun N10 hN10 => ?_
    simp (maxSteps := 2000000) only [s86, ↓Za, ↓Zk, ↓Zs, ↓Zf, ↓Zn, ↓Zt, ↓Ze, ↓Zj, ↓Zg, ↓Zb, ↓Zc, ↓vdn, vup, Zl, Zh, Zi, Zm, Zo, List.map_cons, List.map_nil, cond_true, cond_false, aop, Zw, Zr, Zp, ev, sput, Zu, Zz, Yb, unK, Zd, Zx, Nat.reduceBEq, Nat.reduceAdd, Int.reduceBEq, Int.reduceBNe, Int.reduceLT, Zv, Ya, tup, tyf, w1.len, hwl]
    refine hN10 [(0, v), (2, nv), (3, Zy d), (4, .bool false), (5, Zy (n : Nat)), (6, Zy (j : Nat)), (7, .slice none 0 0), (18, Zy (n : Nat)), (19, Zy (j : Nat)), (22, v), (23, Zy (n : Nat)), (24, .int .i64 0)] _ _ ?_ (by simp (maxSteps := 2000000) only [↓Za, ↓Zk, ↓Zs, ↓Zf, ↓Zn, ↓Zt, ↓Ze, ↓Zj, ↓Zg, ↓Zb, ↓Zc, ↓vdn, vup, Zl, Zh, Zi, Zm, Zo, List.map_cons, List.map_nil, cond_true, cond_false, aop, Zw, Zr, Zp, ev, sput, Zu, Zz, Yb, unK, Zd, Zx, Nat.reduceBEq, Nat.reduceAdd, Int.reduceBEq, Int.reduceBNe, Int.reduceLT, Zv, Ya, tup, tyf])
    clear hN10
    try clear N10
    refine Yo ?_
    refine Yh fun Qa hQa => ?_
    refine Xs (γ := Nat × Value × Yd) (fun g => g.1 ≤ n ∧ OwnL 22 3 g.2.2 g.2.1 ((s.take g.1).map (Bq.putR n j)) ∧ Ext (fun _ => False) H g.2.2 ∧ ∀ b, Yq g.2.1 = some b → H.length ≤ b)
      (fun g => ([(0, v), (2, nv), (3, Zy d), (4, .bool false), (5, Zy (n : Nat)), (6, Zy (j : Nat)), (7, g.2.1), (18, Zy (n : Nat)), (19, Zy (j : Nat)), (22, v), (23, Zy (n : Nat)), (24, Zy (g.1 : Nat))], g.2.2)) (fun g => n - g.1) (0, .slice none 0 0, H) ⟨Nat.zero_le _, OwnL.nil, Ext.refl _ _, fun b hb => by cases hb⟩ (by simp (maxSteps := 2000000) only [↓Za, ↓Zk, ↓Zs, ↓Zf, ↓Zn, ↓Zt, ↓Ze, ↓Zj, ↓Zg, ↓Zb, ↓Zc, ↓vdn, vup, Zl, Zh, Zi, Zm, Zo, List.map_cons, List.map_nil, cond_true, cond_false, aop, Zw, Zr, Zp, ev, sput, Zu, Zz, Yb, unK, Zd, Zx, Nat.reduceBEq, Nat.reduceAdd, Int.reduceBEq, Int.reduceBNe, Int.reduceLT, Zv, Ya, tup, tyf, Int.natCast_zero]) rfl ?_
    rintro ⟨k, cv, G⟩ ⟨hk, hcv, hEG, hcb⟩
    simp only at hk hcv hEG hcb
    refine Yh fun Qb hQb => ?_
    simp only [l86_0]
    by_cases hkn : (k : Int) < n
    · have hk' : k < n := by omega
      have hkW : k < ws.length := by omega
      have hkS : k < s.length := by omega
      have hEh : Ext (fun _ => False) h G := hE.trans hEG
      obtain ⟨w, hwd⟩ : ∃ w, w = ws.getD k undef := ⟨_, rfl⟩
      have hw : IntSl G w (s.getD k []) := by
        have := w2.get undef [] hkS
        rw [← hwd] at this
        exact this.same fun b hb => hEh.2 b (this.lt hb) id
      have e2 : s.getD k [] = s[k]'hkS := by rw [List.getD, List.getElem?_eq_getElem]; rfl
      have hrl : (s.getD k []).length = n + 1 := by rw [e2]; exact (hr _ (List.getElem_mem hkS)).1
      have hjr : j < (s.getD k []).length := by omega
      have hnr : n < (s.getD k []).length := by omega
      have hnx : (s.take (k + 1)).map (Bq.putR n j) = (s.take k).map (Bq.putR n j) ++ [Bq.putR n j (s.getD k [])] := by
        rw [List.take_succ, List.getElem?_eq_getElem hkS, Option.toList_some, List.map_append, List.map_singleton, e2]
      refine Yc fun N11 hN11 => ?_
      simp (maxSteps := 2000000) only [s86, ↓Za, ↓Zk, ↓Zs, ↓Zf, ↓Zn, ↓Zt, ↓Ze, ↓Zj, ↓Zg, ↓Zb, ↓Zc, ↓vdn, vup, Zl, Zh, Zi, Zm, Zo, List.map_cons, List.map_nil, cond_true, cond_false, aop, Zw, Zr, Zp, ev, sput, Zu, Zz, Yb, unK, Zd, Zx, Nat.reduceBEq, Nat.reduceAdd, Int.reduceBEq, Int.reduceBNe, Int.reduceLT, Zv, Ya, tup, tyf, hkn]
      refine hN11 [(0, v), (2, nv), (3, Zy d), (4, .bool false), (5, Zy (n : Nat)), (6, Zy (j : Nat)), (7, cv), (18, Zy (n : Nat)), (19, Zy (j : Nat)), (22, v), (23, Zy (n : Nat)), (24, Zy (k : Nat)), (25, .bool true)] _ _ ?_ (by simp (maxSteps := 2000000) only [↓Za, ↓Zk, ↓Zs, ↓Zf, ↓Zn, ↓Zt, ↓Ze, ↓Zj, ↓Zg, ↓Zb, ↓Zc, ↓vdn, vup, Zl, Zh, Zi, Zm, Zo, List.map_cons, List.map_nil, cond_true, cond_false, aop, Zw, Zr, Zp, ev, sput, Zu, Zz, Yb, unK, Zd, Zx, Nat.reduceBEq, Nat.reduceAdd, Int.reduceBEq, Int.reduceBNe, Int.reduceLT, Zv, Ya, tup, tyf])
      clear hN11
      try clear N11
      refine Yc fun N12 hN12 => ?_
      simp (maxSteps := 2000000) only [s86, ↓Za, ↓Zk, ↓Zs, ↓Zf, ↓Zn, ↓Zt, ↓Ze, ↓Zj, ↓Zg, ↓Zb, ↓Zc, ↓vdn, vup, Zl, Zh, Zi, Zm, Zo, List.map_cons, List.map_nil, cond_true, cond_false, aop, Zw, Zr, Zp, ev, sput, Zu, Zz, Yb, unK, Zd, Zx, Nat.reduceBEq, Nat.reduceAdd, Int.reduceBEq, Int.reduceBNe, Int.reduceLT, Zv, Ya, tup, tyf]
      refine hN12 [(0, v), (2, nv), (3, Zy d), (4, .bool false), (5, Zy (n : Nat)), (6, Zy (j : Nat)), (7, cv), (18, Zy (n : Nat)), (19, Zy (j : Nat)), (22, v), (23, Zy (n : Nat)), (24, Zy (k : Nat))] _ _ ?_ (by simp (maxSteps := 2000000) only [↓Za, ↓Zk, ↓Zs, ↓Zf, ↓Zn, ↓Zt, ↓Ze, ↓Zj, ↓Zg, ↓Zb, ↓Zc, ↓vdn, vup, Zl, Zh, Zi, Zm, Zo, List.map_cons, List.map_nil, cond_true, cond_false, aop, Zw, Zr, Zp, ev, sput, Zu, Zz, Yb, unK, Zd, Zx, Nat.reduceBEq, Nat.reduceAdd, Int.reduceBEq, Int.reduceBNe, Int.reduceLT, Zv, Ya, tup, tyf])
      clear hN12
      try clear N12
      refine Yg fun D hD => ?_
      refine Yo ?_
      refine Yc fun N13 hN13 => ?_
      simp (maxSteps := 2000000) only [s86, ↓Za, ↓Zk, ↓Zs, ↓Zf, ↓Zn, ↓Zt, ↓Ze, ↓Zj, ↓Zg, ↓Zb, ↓Zc, ↓vdn, vup, Zl, Zh, Zi, Zm, Zo, List.map_cons, List.map_nil, cond_true, cond_false, aop, Zw, Zr, Zp, ev, sput, Zu, Zz, Yb, unK, Zd, Zx, Nat.reduceBEq, Nat.reduceAdd, Int.reduceBEq, Int.reduceBNe, Int.reduceLT, Zv, Ya, tup, tyf, w1.idx el_84 esz_22 hkW, (w1.ext hEh).load shp_22 hkW, ← hwd]
      refine hN13 [(0, v), (2, nv), (3, Zy d), (4, .bool false), (5, Zy (n : Nat)), (6, Zy (j : Nat)), (7, cv), (9, w), (18, Zy (n : Nat)), (19, Zy (j : Nat)), (22, v), (23, Zy (n : Nat)), (24, Zy (k : Nat))] _ _ ?_ (by simp (maxSteps := 2000000) only [↓Za, ↓Zk, ↓Zs, ↓Zf, ↓Zn, ↓Zt, ↓Ze, ↓Zj, ↓Zg, ↓Zb, ↓Zc, ↓vdn, vup, Zl, Zh, Zi, Zm, Zo, List.map_cons, List.map_nil, cond_true, cond_false, aop, Zw, Zr, Zp, ev, sput, Zu, Zz, Yb, unK, Zd, Zx, Nat.reduceBEq, Nat.reduceAdd, Int.reduceBEq, Int.reduceBNe, Int.reduceLT, Zv, Ya, tup, tyf])
      clear hN13
      try clear N13
      refine Yc fun N14 hN14 => ?_
      simp (maxSteps := 2000000) only [s86, ↓Za, ↓Zk, ↓Zs, ↓Zf, ↓Zn, ↓Zt, ↓Ze, ↓Zj, ↓Zg, ↓Zb, ↓Zc, ↓vdn, vup, Zl, Zh, Zi, Zm, Zo, List.map_cons, List.map_nil, cond_true, cond_false, aop, Zw, Zr, Zp, ev, sput, Zu, Zz, Yb, unK, Zd, Zx, Nat.reduceBEq, Nat.reduceAdd, Int.reduceBEq, Int.reduceBNe, Int.reduceLT, Zv, Ya, tup, tyf, Yy, List.nil_append, List.append_nil, List.toList_toArray, List.cons_append]
      refine (clone_rsi hw (fun hc => by rw [hc] at hrl; simp at hrl) (by omega)).mono ?_
      rintro r G1 hr1
      refine hN14 [(0, v), (2, nv), (3, Zy d), (4, .bool false), (5, Zy (n : Nat)), (6, Zy (j : Nat)), (7, cv), (9, r), (18, Zy (n : Nat)), (19, Zy (j : Nat)), (22, v), (23, Zy (n : Nat)), (24, Zy (k : Nat))] _ _ ?_ (by simp (maxSteps := 2000000) only [↓Za, ↓Zk, ↓Zs, ↓Zf, ↓Zn, ↓Zt, ↓Ze, ↓Zj, ↓Zg, ↓Zb, ↓Zc, ↓vdn, vup, Zl, Zh, Zi, Zm, Zo, List.map_cons, List.map_nil, cond_true, cond_false, aop, Zw, Zr, Zp, ev, sput, Zu, Zz, Yb, unK, Zd, Zx, Nat.reduceBEq, Nat.reduceAdd, Int.reduceBEq, Int.reduceBNe, Int.reduceLT, Zv, Ya, tup, tyf])
      clear hN14
      try clear N14
      have hE1 := hr1.2.1
      refine Yc fun N15 hN15 => ?_
      simp (maxSteps := 2000000) only [s86, ↓Za, ↓Zk, ↓Zs, ↓Zf, ↓Zn, ↓Zt, ↓Ze, ↓Zj, ↓Zg, ↓Zb, ↓Zc, ↓vdn, vup, Zl, Zh, Zi, Zm, Zo, List.map_cons, List.map_nil, cond_true, cond_false, aop, Zw, Zr, Zp, ev, sput, Zu, Zz, Yb, unK, Zd, Zx, Nat.reduceBEq, Nat.reduceAdd, Int.reduceBEq, Int.reduceBNe, Int.reduceLT, Zv, Ya, tup, tyf, hr1.1.int.idx Xv Xi hnr, hr1.1.int.load Xl hnr, hr1.1.int.idx Xv Xi hjr]
      refine ownSl_store hr1.1 hjr fun G2 hr2 hE2 => ?_
      have hEG2 : Ext (fun _ => False) G G2 := ext_own hE1 hr1.2.2 hE2
      refine hN15 [(0, v), (2, nv), (3, Zy d), (4, .bool false), (5, Zy (n : Nat)), (6, Zy (j : Nat)), (7, cv), (9, r), (18, Zy (n : Nat)), (19, Zy (j : Nat)), (22, v), (23, Zy (n : Nat)), (24, Zy (k : Nat))] _ _ ?_ (by simp (maxSteps := 2000000) only [↓Za, ↓Zk, ↓Zs, ↓Zf, ↓Zn, ↓Zt, ↓Ze, ↓Zj, ↓Zg, ↓Zb, ↓Zc, ↓vdn, vup, Zl, Zh, Zi, Zm, Zo, List.map_cons, List.map_nil, cond_true, cond_false, aop, Zw, Zr, Zp, ev, sput, Zu, Zz, Yb, unK, Zd, Zx, Nat.reduceBEq, Nat.reduceAdd, Int.reduceBEq, Int.reduceBNe, Int.reduceLT, Zv, Ya, tup, tyf])
      clear hN15
      try clear N15
      have hr2' : OwnSl 3 G2 r (Bq.putR n j (s.getD k [])) := hr2
      refine Yf ?_
      simp (maxSteps := 2000000) only [s86, ↓Za, ↓Zk, ↓Zs, ↓Zf, ↓Zn, ↓Zt, ↓Ze, ↓Zj, ↓Zg, ↓Zb, ↓Zc, ↓vdn, vup, Zl, Zh, Zi, Zm, Zo, List.map_cons, List.map_nil, cond_true, cond_false, aop, Zw, Zr, Zp, ev, sput, Zu, Zz, Yb, unK, Zd, Zx, Nat.reduceBEq, Nat.reduceAdd, Int.reduceBEq, Int.reduceBNe, Int.reduceLT, Zv, Ya, tup, tyf, List.map_toArray, buildSl1 el_84 zero_22 esz_22 hr2']
      have hval : ValSl (G2 ++ [Blk.cells [r] 22 false]) (.slice (some ⟨G2.length, 0, none⟩) 1 1) [r] := .inr ⟨G2.length, 0, none, 1, [r], 22, false, rfl, Nat.le_refl _, by simp [view, Blk.view], rfl⟩
      have hEa : Ext (fun _ => False) G2 (G2 ++ [Blk.cells [r] 22 false]) := Ext.app _ _ _
      refine OwnL.app ((hcv.ext hEG2).ext hEa) app_84_84 hval (OwnL.single hr2') (by rw [List.length_map, List.length_take, List.length_singleton]; omega) fun cv' G3 ho3 hE3 hb3 => ?_
      rw [← hnx] at ho3
      have hEG3 : Ext (fun _ => False) H G3 := ext_own ((hEG.trans hEG2).trans hEa) hcb hE3
      have hcb' : ∀ b, Yq cv' = some b → H.length ≤ b := fun b hb => by
        rcases hb3 with h1 | ⟨b', h1, h2⟩
        · exact hcb b (h1 ▸ hb)
        · rw [h1] at hb; cases hb
          rw [List.length_append] at h2
          have := (hEG.trans hEG2).1; omega
      refine hD [(0, v), (2, nv), (3, Zy d), (4, .bool false), (5, Zy (n : Nat)), (6, Zy (j : Nat)), (7, cv'), (18, Zy (n : Nat)), (19, Zy (j : Nat)), (22, v), (23, Zy (n : Nat)), (24, Zy (k : Nat))] _ _ ?_ (by simp (maxSteps := 2000000) only [↓Za, ↓Zk, ↓Zs, ↓Zf, ↓Zn, ↓Zt, ↓Ze, ↓Zj, ↓Zg, ↓Zb, ↓Zc, ↓vdn, vup, Zl, Zh, Zi, Zm, Zo, List.map_cons, List.map_nil, cond_true, cond_false, aop, Zw, Zr, Zp, ev, sput, Zu, Zz, Yb, unK, Zd, Zx, Nat.reduceBEq, Nat.reduceAdd, Int.reduceBEq, Int.reduceBNe, Int.reduceLT, Zv, Ya, tup, tyf])
      clear hD
      try clear D
      refine Yf ?_
      simp (maxSteps := 2000000) only [s86, ↓Za, ↓Zk, ↓Zs, ↓Zf, ↓Zn, ↓Zt, ↓Ze, ↓Zj, ↓Zg, ↓Zb, ↓Zc, ↓vdn, vup, Zl, Zh, Zi, Zm, Zo, List.map_cons, List.map_nil, cond_true, cond_false, aop, Zw, Zr, Zp, ev, sput, Zu, Zz, Yb, unK, Zd, Zx, Nat.reduceBEq, Nat.reduceAdd, Int.reduceBEq, Int.reduceBNe, Int.reduceLT, Zv, Ya, tup, tyf, add1 (show k < 9223372036854775807 by omega)]
      exact hQb _ _ _ ⟨(k + 1, cv', G3), ⟨hk', ho3, hEG3, hcb'⟩, by simp only; omega, by simp (maxSteps := 2000000) only [↓Za, ↓Zk, ↓Zs, ↓Zf, ↓Zn, ↓Zt, ↓Ze, ↓Zj, ↓Zg, ↓Zb, ↓Zc, ↓vdn, vup, Zl, Zh, Zi, Zm, Zo, List.map_cons, List.map_nil, cond_true, cond_false, aop, Zw, Zr, Zp, ev, sput, Zu, Zz, Yb, unK, Zd, Zx, Nat.reduceBEq, Nat.reduceAdd, Int.reduceBEq, Int.reduceBNe, Int.reduceLT, Zv, Ya, tup, tyf], rfl⟩
    obtain rfl : n = k := by omega
    refine Yc fun N16 hN16 => ?_
    simp (maxSteps := 2000000) only [s86, ↓Za, ↓Zk, ↓Zs, ↓Zf, ↓Zn, ↓Zt, ↓Ze, ↓Zj, ↓Zg, ↓Zb, ↓Zc, ↓vdn, vup, Zl, Zh, Zi, Zm, Zo, List.map_cons, List.map_nil, cond_true, cond_false, aop, Zw, Zr, Zp, ev, sput, Zu, Zz, Yb, unK, Zd, Zx, Nat.reduceBEq, Nat.reduceAdd, Int.reduceBEq, Int.reduceBNe, Int.reduceLT, Zv, Ya, tup, tyf, hkn]
    refine hN16 [(0, v), (2, nv), (3, Zy d), (4, .bool false), (5, Zy (n : Nat)), (6, Zy (j : Nat)), (7, cv), (18, Zy (n : Nat)), (19, Zy (j : Nat)), (22, v), (23, Zy (n : Nat)), (24, Zy (n : Nat)), (25, .bool false)] _ _ ?_ (by simp (maxSteps := 2000000) only [↓Za, ↓Zk, ↓Zs, ↓Zf, ↓Zn, ↓Zt, ↓Ze, ↓Zj, ↓Zg, ↓Zb, ↓Zc, ↓vdn, vup, Zl, Zh, Zi, Zm, Zo, List.map_cons, List.map_nil, cond_true, cond_false, aop, Zw, Zr, Zp, ev, sput, Zu, Zz, Yb, unK, Zd, Zx, Nat.reduceBEq, Nat.reduceAdd, Int.reduceBEq, Int.reduceBNe, Int.reduceLT, Zv, Ya, tup, tyf])
    clear hN16
    try clear N16
    refine Yc fun N17 hN17 => ?_
    simp (maxSteps := 2000000) only [s86, ↓Za, ↓Zk, ↓Zs, ↓Zf, ↓Zn, ↓Zt, ↓Ze, ↓Zj, ↓Zg, ↓Zb, ↓Zc, ↓vdn, vup, Zl, Zh, Zi, Zm, Zo, List.map_cons, List.map_nil, cond_true, cond_false, aop, Zw, Zr, Zp, ev, sput, Zu, Zz, Yb, unK, Zd, Zx, Nat.reduceBEq, Nat.reduceAdd, Int.reduceBEq, Int.reduceBNe, Int.reduceLT, Zv, Ya, tup, tyf]
    refine hQb _ _ _ (hQa _ _ _ ?_)
    simp (maxSteps := 2000000) only [s86, ↓Za, ↓Zk, ↓Zs, ↓Zf, ↓Zn, ↓Zt, ↓Ze, ↓Zj, ↓Zg, ↓Zb, ↓Zc, ↓vdn, vup, Zl, Zh, Zi, Zm, Zo, List.map_cons, List.map_nil, cond_true, cond_false, aop, Zw, Zr, Zp, ev, sput, Zu, Zz, Yb, unK, Zd, Zx, Nat.reduceBEq, Nat.reduceAdd, Int.reduceBEq, Int.reduceBNe, Int.reduceLT, Zv, Ya, tup, tyf, if_true]
    rw [← hl, List.take_length, hl] at hcv
    refine hA [(0, v), (2, nv), (3, Zy d), (4, .bool false), (5, Zy (n : Nat)), (6, Zy (j : Nat)), (7, cv), (18, Zy (n : Nat)), (19, Zy (j : Nat))] _ _ ?_ (by simp (maxSteps := 2000000) only [↓Za, ↓Zk, ↓Zs, ↓Zf, ↓Zn, ↓Zt, ↓Ze, ↓Zj, ↓Zg, ↓Zb, ↓Zc, ↓vdn, vup, Zl, Zh, Zi, Zm, Zo, List.map_cons, List.map_nil, cond_true, cond_false, aop, Zw, Zr, Zp, ev, sput, Zu, Zz, Yb, unK, Zd, Zx, Nat.reduceBEq, Nat.reduceAdd, Int.reduceBEq, Int.reduceBNe, Int.reduceLT, Zv, Ya, tup, tyf])
    clear hA
    try clear A
    clear hQa hQb
    refine Yf ?_
    have hdj := det_call n (h := G) (v := cv) (s := s.map (Bq.putR n j)) h6 (hpm j hj').1 (hpm j hj').2 (rowsI_of hcv)
    simp (maxSteps := 2000000) only [s86, ↓Za, ↓Zk, ↓Zs, ↓Zf, ↓Zn, ↓Zt, ↓Ze, ↓Zj, ↓Zg, ↓Zb, ↓Zc, ↓vdn, vup, Zl, Zh, Zi, Zm, Zo, List.map_cons, List.map_nil, cond_true, cond_false, aop, Zw, Zr, Zp, ev, sput, Zu, Zz, Yb, unK, Zd, Zx, Nat.reduceBEq, Nat.reduceAdd, Int.reduceBEq, Int.reduceBNe, Int.reduceLT, Zv, Ya, tup, tyf, Yy, List.nil_append, List.append_nil, List.toList_toArray, List.cons_append]
    refine (hdj).mono ?_
    rintro _ G ⟨rfl, rfl⟩
    simp (maxSteps := 2000000) only [s86, ↓Za, ↓Zk, ↓Zs, ↓Zf, ↓Zn, ↓Zt, ↓Ze, ↓Zj, ↓Zg, ↓Zb, ↓Zc, ↓vdn, vup, Zl, Zh, Zi, Zm, Zo, List.map_cons, List.map_nil, cond_true, cond_false, aop, Zw, Zr, Zp, ev, sput, Zu, Zz, Yb, unK, Zd, Zx, Nat.reduceBEq, Nat.reduceAdd, Int.reduceBEq, Int.reduceBNe, Int.reduceLT, Zv, Ya, tup, tyf, List.map_toArray, litI1]
    refine (hnv.ext hEG).push (by rw [numT_len]; omega) fun nv' G' hnv' => ?_
    rw [← numT_succ] at hnv'
    refine hB [(0, v), (2, nv'), (3, Zy d), (4, .bool false), (5, Zy (n : Nat)), (18, Zy (n : Nat)), (19, Zy (j : Nat))] _ _ ?_ (by simp (maxSteps := 2000000) only [↓Za, ↓Zk, ↓Zs, ↓Zf, ↓Zn, ↓Zt, ↓Ze, ↓Zj, ↓Zg, ↓Zb, ↓Zc, ↓vdn, vup, Zl, Zh, Zi, Zm, Zo, List.map_cons, List.map_nil, cond_true, cond_false, aop, Zw, Zr, Zp, ev, sput, Zu, Zz, Yb, unK, Zd, Zx, Nat.reduceBEq, Nat.reduceAdd, Int.reduceBEq, Int.reduceBNe, Int.reduceLT, Zv, Ya, tup, tyf])
    clear hB
    try clear B
    refine Yf ?_
    simp (maxSteps := 2000000) only [s86, ↓Za, ↓Zk, ↓Zs, ↓Zf, ↓Zn, ↓Zt, ↓Ze, ↓Zj, ↓Zg, ↓Zb, ↓Zc, ↓vdn, vup, Zl, Zh, Zi, Zm, Zo, List.map_cons, List.map_nil, cond_true, cond_false, aop, Zw, Zr, Zp, ev, sput, Zu, Zz, Yb, unK, Zd, Zx, Nat.reduceBEq, Nat.reduceAdd, Int.reduceBEq, Int.reduceBNe, Int.reduceLT, Zv, Ya, tup, tyf, add1 (show j < 9223372036854775807 by omega)]
    exact hQ2 _ _ _ ⟨(j + 1, nv', G'), ⟨hj', hnv'⟩, by simp only; omega, by simp (maxSteps := 2000000) only [↓Za, ↓Zk, ↓Zs, ↓Zf, ↓Zn, ↓Zt, ↓Ze, ↓Zj, ↓Zg, ↓Zb, ↓Zc, ↓vdn, vup, Zl, Zh, Zi, Zm, Zo, List.map_cons, List.map_nil, cond_true, cond_false, aop, Zw, Zr, Zp, ev, sput, Zu, Zz, Yb, unK, Zd, Zx, Nat.reduceBEq, Nat.reduceAdd, Int.reduceBEq, Int.reduceBNe, Int.reduceLT, Zv, Ya, tup, tyf], rfl⟩
  obtain rfl : n = j := by omega
  refine Yc fun N18 hN18 => ?_
  simp (maxSteps := 2000000) only [s86, ↓Za, ↓Zk, ↓Zs, ↓Zf, ↓Zn, ↓Zt, ↓Ze, ↓Zj, ↓Zg, ↓Zb, ↓Zc, ↓vdn, vup, Zl, Zh, Zi, Zm, Zo, List.map_cons, List.map_nil, cond_true, cond_false, aop, Zw, Zr, Zp, ev, sput, Zu, Zz, Yb, unK, Zd, Zx, Nat.reduceBEq, Nat.reduceAdd, Int.reduceBEq, Int.reduceBNe, Int.reduceLT, Zv, Ya, tup, tyf, hjn]
  refine hN18 [(0, v), (2, nv), (3, Zy d), (4, .bool false), (5, Zy (n : Nat)), (18, Zy (n : Nat)), (19, Zy (n : Nat)), (20, .bool false)] _ _ ?_ (by simp (maxSteps := 2000000) only [↓Za, ↓Zk, ↓Zs, ↓Zf, ↓Zn, ↓Zt, ↓Ze, ↓Zj, ↓Zg, ↓Zb, ↓Zc, ↓vdn, vup, Zl, Zh, Zi, Zm, Zo, List.map_cons, List.map_nil, cond_true, cond_false, aop, Zw, Zr, Zp, ev, sput, Zu, Zz, Yb, unK, Zd, Zx, Nat.reduceBEq, Nat.reduceAdd, Int.reduceBEq, Int.reduceBNe, Int.reduceLT, Zv, Ya, tup, tyf])
  clear hN18
  try clear N18
  refine Yc fun N19 hN19 => ?_
  simp (maxSteps := 2000000) only [s86, ↓Za, ↓Zk, ↓Zs, ↓Zf, ↓Zn, ↓Zt, ↓Ze, ↓Zj, ↓Zg, ↓Zb, ↓Zc, ↓vdn, vup, Zl, Zh, Zi, Zm, Zo, List.map_cons, List.map_nil, cond_true, cond_false, aop, Zw, Zr, Zp, ev, sput, Zu, Zz, Yb, unK, Zd, Zx, Nat.reduceBEq, Nat.reduceAdd, Int.reduceBEq, Int.reduceBNe, Int.reduceLT, Zv, Ya, tup, tyf]
  refine hQ2 _ _ _ (hQ _ _ _ ?_)
  simp (maxSteps := 2000000) only [s86, ↓Za, ↓Zk, ↓Zs, ↓Zf, ↓Zn, ↓Zt, ↓Ze, ↓Zj, ↓Zg, ↓Zb, ↓Zc, ↓vdn, vup, Zl, Zh, Zi, Zm, Zo, List.map_cons, List.map_nil, cond_true, cond_false, aop, Zw, Zr, Zp, ev, sput, Zu, Zz, Yb, unK, Zd, Zx, Nat.reduceBEq, Nat.reduceAdd, Int.reduceBEq, Int.reduceBNe, Int.reduceLT, Zv, Ya, tup, tyf, if_true]
  refine hZ [(0, v), (2, nv), (3, Zy d), (4, .bool false), (5, Zy (n : Nat))] _ _ ?_ (by simp (maxSteps := 2000000) only [↓Za, ↓Zk, ↓Zs, ↓Zf, ↓Zn, ↓Zt, ↓Ze, ↓Zj, ↓Zg, ↓Zb, ↓Zc, ↓vdn, vup, Zl, Zh, Zi, Zm, Zo, List.map_cons, List.map_nil, cond_true, cond_false, aop, Zw, Zr, Zp, ev, sput, Zu, Zz, Yb, unK, Zd, Zx, Nat.reduceBEq, Nat.reduceAdd, Int.reduceBEq, Int.reduceBNe, Int.reduceLT, Zv, Ya, tup, tyf])
  clear hZ
  try clear Z
  clear hQ hQ2
  have hEH := hnv.2.1
  have hdne : Bq.pdet n s ≠ 0 := fun h => hd0 (hd ▸ h)
  by_cases hneg : d < 0
  · have hsg : subV .i64 0 d = - d := by rw [subV_id (by omega) (by omega)]; omega
    have hnl : numL n s = (numT n s n).map (- ·) := by rw [numL, if_pos (by rw [hd]; exact hneg)]
    have hna : ((d.natAbs : Nat) : Int) = - d := by omega
    refine Yg fun M hM => ?_
    refine Yc fun N20 hN20 => ?_
    simp (maxSteps := 2000000) only [s86, ↓Za, ↓Zk, ↓Zs, ↓Zf, ↓Zn, ↓Zt, ↓Ze, ↓Zj, ↓Zg, ↓Zb, ↓Zc, ↓vdn, vup, Zl, Zh, Zi, Zm, Zo, List.map_cons, List.map_nil, cond_true, cond_false, aop, Zw, Zr, Zp, ev, sput, Zu, Zz, Yb, unK, Zd, Zx, Nat.reduceBEq, Nat.reduceAdd, Int.reduceBEq, Int.reduceBNe, Int.reduceLT, Zv, Ya, tup, tyf, hneg]
    refine hN20 [(0, v), (2, nv), (3, Zy d), (4, .bool false), (5, Zy (n : Nat)), (50, .bool true)] _ _ ?_ (by simp (maxSteps := 2000000) only [↓Za, ↓Zk, ↓Zs, ↓Zf, ↓Zn, ↓Zt, ↓Ze, ↓Zj, ↓Zg, ↓Zb, ↓Zc, ↓vdn, vup, Zl, Zh, Zi, Zm, Zo, List.map_cons, List.map_nil, cond_true, cond_false, aop, Zw, Zr, Zp, ev, sput, Zu, Zz, Yb, unK, Zd, Zx, Nat.reduceBEq, Nat.reduceAdd, Int.reduceBEq, Int.reduceBNe, Int.reduceLT, Zv, Ya, tup, tyf])
    clear hN20
    try clear N20
    refine Xq rfl ?_
    refine Yc fun N21 hN21 => ?_
    simp (maxSteps := 2000000) only [s86, ↓Za, ↓Zk, ↓Zs, ↓Zf, ↓Zn, ↓Zt, ↓Ze, ↓Zj, ↓Zg, ↓Zb, ↓Zc, ↓vdn, vup, Zl, Zh, Zi, Zm, Zo, List.map_cons, List.map_nil, cond_true, cond_false, aop, Zw, Zr, Zp, ev, sput, Zu, Zz, Yb, unK, Zd, Zx, Nat.reduceBEq, Nat.reduceAdd, Int.reduceBEq, Int.reduceBNe, Int.reduceLT, Zv, Ya, tup, tyf, hsg]
    refine hN21 [(0, v), (2, nv), (3, Zy (-d)), (4, .bool false), (5, Zy (n : Nat)), (50, .bool true)] _ _ ?_ (by simp (maxSteps := 2000000) only [↓Za, ↓Zk, ↓Zs, ↓Zf, ↓Zn, ↓Zt, ↓Ze, ↓Zj, ↓Zg, ↓Zb, ↓Zc, ↓vdn, vup, Zl, Zh, Zi, Zm, Zo, List.map_cons, List.map_nil, cond_true, cond_false, aop, Zw, Zr, Zp, ev, sput, Zu, Zz, Yb, unK, Zd, Zx, Nat.reduceBEq, Nat.reduceAdd, Int.reduceBEq, Int.reduceBNe, Int.reduceLT, Zv, Ya, tup, tyf])
    clear hN21
    try clear N21
    refine Yc fun N22 hN22 => ?_
    simp (maxSteps := 2000000) only [s86, ↓Za, ↓Zk, ↓Zs, ↓Zf, ↓Zn, ↓Zt, ↓Ze, ↓Zj, ↓Zg, ↓Zb, ↓Zc, ↓vdn, vup, Zl, Zh, Zi, Zm, Zo, List.map_cons, List.map_nil, cond_true, cond_false, aop, Zw, Zr, Zp, ev, sput, Zu, Zz, Yb, unK, Zd, Zx, Nat.reduceBEq, Nat.reduceAdd, Int.reduceBEq, Int.reduceBNe, Int.reduceLT, Zv, Ya, tup, tyf, hnv.1.int.len, numT_len]
    refine hN22 [(0, v), (2, nv), (3, Zy (-d)), (4, .bool false), (5, Zy (n : Nat)), (50, .bool true), (53, nv), (54, Zy (n : Nat)), (55, .int .i64 0)] _ _ ?_ (by simp (maxSteps := 2000000) only [↓Za, ↓Zk, ↓Zs, ↓Zf, ↓Zn, ↓Zt, ↓Ze, ↓Zj, ↓Zg, ↓Zb, ↓Zc, ↓vdn, vup, Zl, Zh, Zi, Zm, Zo, List.map_cons, List.map_nil, cond_true, cond_false, aop, Zw, Zr, Zp, ev, sput, Zu, Zz, Yb, unK, Zd, Zx, Nat.reduceBEq, Nat.reduceAdd, Int.reduceBEq, Int.reduceBNe, Int.reduceLT, Zv, Ya, tup, tyf])
    clear hN22
    try clear N22
    refine Yo ?_
    refine Yh fun Q hQ => ?_
    refine Xs (γ := Nat × Yd) (fun g => g.1 ≤ n ∧ OwnSl 3 g.2 nv (ngT (numT n s n) g.1) ∧ Ext (fun _ => False) h g.2)
      (fun g => ([(0, v), (2, nv), (3, Zy (-d)), (4, .bool false), (5, Zy (n : Nat)), (50, .bool true), (53, nv), (54, Zy (n : Nat)), (55, Zy (g.1 : Nat))], g.2)) (fun g => n - g.1) (0, H) ⟨Nat.zero_le _, by simp only [ngT, List.take_zero, List.map_nil, List.nil_append, List.drop_zero]; exact hnv.1, hEH⟩ (by simp (maxSteps := 2000000) only [↓Za, ↓Zk, ↓Zs, ↓Zf, ↓Zn, ↓Zt, ↓Ze, ↓Zj, ↓Zg, ↓Zb, ↓Zc, ↓vdn, vup, Zl, Zh, Zi, Zm, Zo, List.map_cons, List.map_nil, cond_true, cond_false, aop, Zw, Zr, Zp, ev, sput, Zu, Zz, Yb, unK, Zd, Zx, Nat.reduceBEq, Nat.reduceAdd, Int.reduceBEq, Int.reduceBNe, Int.reduceLT, Zv, Ya, tup, tyf, Int.natCast_zero]) rfl ?_
    rintro ⟨k, G⟩ ⟨hk, ho, hEG⟩
    simp only at hk ho hEG
    refine Yh fun Q2 hQ2 => ?_
    simp only [l86_2]
    by_cases hkn : (k : Int) < n
    · have hk' : k < n := by omega
      have hkT : k < (numT n s n).length := by rw [numT_len]; exact hk'
      have hkN : k < (ngT (numT n s n) k).length := by rw [ngT_len]; exact hkT
      have hb1 := habs k hk'
      have hsg2 : subV .i64 0 (Bq.pdet n (s.map (Bq.putR n k))) = - Bq.pdet n (s.map (Bq.putR n k)) := by rw [subV_id (by omega) (by omega)]; omega
      have hset := ngT_set hkT
      rw [numT_get hk'] at hset
      refine Yc fun N23 hN23 => ?_
      simp (maxSteps := 2000000) only [s86, ↓Za, ↓Zk, ↓Zs, ↓Zf, ↓Zn, ↓Zt, ↓Ze, ↓Zj, ↓Zg, ↓Zb, ↓Zc, ↓vdn, vup, Zl, Zh, Zi, Zm, Zo, List.map_cons, List.map_nil, cond_true, cond_false, aop, Zw, Zr, Zp, ev, sput, Zu, Zz, Yb, unK, Zd, Zx, Nat.reduceBEq, Nat.reduceAdd, Int.reduceBEq, Int.reduceBNe, Int.reduceLT, Zv, Ya, tup, tyf, hkn]
      refine hN23 [(0, v), (2, nv), (3, Zy (-d)), (4, .bool false), (5, Zy (n : Nat)), (50, .bool true), (53, nv), (54, Zy (n : Nat)), (55, Zy (k : Nat)), (56, .bool true)] _ _ ?_ (by simp (maxSteps := 2000000) only [↓Za, ↓Zk, ↓Zs, ↓Zf, ↓Zn, ↓Zt, ↓Ze, ↓Zj, ↓Zg, ↓Zb, ↓Zc, ↓vdn, vup, Zl, Zh, Zi, Zm, Zo, List.map_cons, List.map_nil, cond_true, cond_false, aop, Zw, Zr, Zp, ev, sput, Zu, Zz, Yb, unK, Zd, Zx, Nat.reduceBEq, Nat.reduceAdd, Int.reduceBEq, Int.reduceBNe, Int.reduceLT, Zv, Ya, tup, tyf])
      clear hN23
      try clear N23
      refine Yc fun N24 hN24 => ?_
      simp (maxSteps := 2000000) only [s86, ↓Za, ↓Zk, ↓Zs, ↓Zf, ↓Zn, ↓Zt, ↓Ze, ↓Zj, ↓Zg, ↓Zb, ↓Zc, ↓vdn, vup, Zl, Zh, Zi, Zm, Zo, List.map_cons, List.map_nil, cond_true, cond_false, aop, Zw, Zr, Zp, ev, sput, Zu, Zz, Yb, unK, Zd, Zx, Nat.reduceBEq, Nat.reduceAdd, Int.reduceBEq, Int.reduceBNe, Int.reduceLT, Zv, Ya, tup, tyf]
      refine hN24 [(0, v), (2, nv), (3, Zy (-d)), (4, .bool false), (5, Zy (n : Nat)), (50, .bool true), (53, nv), (54, Zy (n : Nat)), (55, Zy (k : Nat))] _ _ ?_ (by simp (maxSteps := 2000000) only [↓Za, ↓Zk, ↓Zs, ↓Zf, ↓Zn, ↓Zt, ↓Ze, ↓Zj, ↓Zg, ↓Zb, ↓Zc, ↓vdn, vup, Zl, Zh, Zi, Zm, Zo, List.map_cons, List.map_nil, cond_true, cond_false, aop, Zw, Zr, Zp, ev, sput, Zu, Zz, Yb, unK, Zd, Zx, Nat.reduceBEq, Nat.reduceAdd, Int.reduceBEq, Int.reduceBNe, Int.reduceLT, Zv, Ya, tup, tyf])
      clear hN24
      try clear N24
      refine Yg fun B hB => ?_
      refine Yo ?_
      refine Yc fun N25 hN25 => ?_
      simp (maxSteps := 2000000) only [s86, ↓Za, ↓Zk, ↓Zs, ↓Zf, ↓Zn, ↓Zt, ↓Ze, ↓Zj, ↓Zg, ↓Zb, ↓Zc, ↓vdn, vup, Zl, Zh, Zi, Zm, Zo, List.map_cons, List.map_nil, cond_true, cond_false, aop, Zw, Zr, Zp, ev, sput, Zu, Zz, Yb, unK, Zd, Zx, Nat.reduceBEq, Nat.reduceAdd, Int.reduceBEq, Int.reduceBNe, Int.reduceLT, Zv, Ya, tup, tyf]
      refine hN25 [(0, v), (2, nv), (3, Zy (-d)), (4, .bool false), (5, Zy (n : Nat)), (10, Zy (k : Nat)), (50, .bool true), (53, nv), (54, Zy (n : Nat)), (55, Zy (k : Nat))] _ _ ?_ (by simp (maxSteps := 2000000) only [↓Za, ↓Zk, ↓Zs, ↓Zf, ↓Zn, ↓Zt, ↓Ze, ↓Zj, ↓Zg, ↓Zb, ↓Zc, ↓vdn, vup, Zl, Zh, Zi, Zm, Zo, List.map_cons, List.map_nil, cond_true, cond_false, aop, Zw, Zr, Zp, ev, sput, Zu, Zz, Yb, unK, Zd, Zx, Nat.reduceBEq, Nat.reduceAdd, Int.reduceBEq, Int.reduceBNe, Int.reduceLT, Zv, Ya, tup, tyf])
      clear hN25
      try clear N25
      refine Yf ?_
      simp (maxSteps := 2000000) only [s86, ↓Za, ↓Zk, ↓Zs, ↓Zf, ↓Zn, ↓Zt, ↓Ze, ↓Zj, ↓Zg, ↓Zb, ↓Zc, ↓vdn, vup, Zl, Zh, Zi, Zm, Zo, List.map_cons, List.map_nil, cond_true, cond_false, aop, Zw, Zr, Zp, ev, sput, Zu, Zz, Yb, unK, Zd, Zx, Nat.reduceBEq, Nat.reduceAdd, Int.reduceBEq, Int.reduceBNe, Int.reduceLT, Zv, Ya, tup, tyf, ho.int.idx Xv Xi hkN, ho.int.load Xl hkN, ngT_get hkT, numT_get hk', hsg2]
      refine ownSl_store ho hkN fun G2 ho2 hE2 => ?_
      rw [hset] at ho2
      refine hB [(0, v), (2, nv), (3, Zy (-d)), (4, .bool false), (5, Zy (n : Nat)), (50, .bool true), (53, nv), (54, Zy (n : Nat)), (55, Zy (k : Nat))] _ _ ?_ (by simp (maxSteps := 2000000) only [↓Za, ↓Zk, ↓Zs, ↓Zf, ↓Zn, ↓Zt, ↓Ze, ↓Zj, ↓Zg, ↓Zb, ↓Zc, ↓vdn, vup, Zl, Zh, Zi, Zm, Zo, List.map_cons, List.map_nil, cond_true, cond_false, aop, Zw, Zr, Zp, ev, sput, Zu, Zz, Yb, unK, Zd, Zx, Nat.reduceBEq, Nat.reduceAdd, Int.reduceBEq, Int.reduceBNe, Int.reduceLT, Zv, Ya, tup, tyf])
      clear hB
      try clear B
      refine Yf ?_
      simp (maxSteps := 2000000) only [s86, ↓Za, ↓Zk, ↓Zs, ↓Zf, ↓Zn, ↓Zt, ↓Ze, ↓Zj, ↓Zg, ↓Zb, ↓Zc, ↓vdn, vup, Zl, Zh, Zi, Zm, Zo, List.map_cons, List.map_nil, cond_true, cond_false, aop, Zw, Zr, Zp, ev, sput, Zu, Zz, Yb, unK, Zd, Zx, Nat.reduceBEq, Nat.reduceAdd, Int.reduceBEq, Int.reduceBNe, Int.reduceLT, Zv, Ya, tup, tyf, add1 (show k < 9223372036854775807 by omega)]
      exact hQ2 _ _ _ ⟨(k + 1, G2), ⟨hk', ho2, ext_own hEG hnv.2.2 hE2⟩, by simp only; omega, by simp (maxSteps := 2000000) only [↓Za, ↓Zk, ↓Zs, ↓Zf, ↓Zn, ↓Zt, ↓Ze, ↓Zj, ↓Zg, ↓Zb, ↓Zc, ↓vdn, vup, Zl, Zh, Zi, Zm, Zo, List.map_cons, List.map_nil, cond_true, cond_false, aop, Zw, Zr, Zp, ev, sput, Zu, Zz, Yb, unK, Zd, Zx, Nat.reduceBEq, Nat.reduceAdd, Int.reduceBEq, Int.reduceBNe, Int.reduceLT, Zv, Ya, tup, tyf], rfl⟩
    obtain rfl : n = k := by omega
    refine Yc fun N26 hN26 => ?_
    simp (maxSteps := 2000000) only [s86, ↓Za, ↓Zk, ↓Zs, ↓Zf, ↓Zn, ↓Zt, ↓Ze, ↓Zj, ↓Zg, ↓Zb, ↓Zc, ↓vdn, vup, Zl, Zh, Zi, Zm, Zo, List.map_cons, List.map_nil, cond_true, cond_false, aop, Zw, Zr, Zp, ev, sput, Zu, Zz, Yb, unK, Zd, Zx, Nat.reduceBEq, Nat.reduceAdd, Int.reduceBEq, Int.reduceBNe, Int.reduceLT, Zv, Ya, tup, tyf, hkn]
    refine hN26 [(0, v), (2, nv), (3, Zy (-d)), (4, .bool false), (5, Zy (n : Nat)), (50, .bool true), (53, nv), (54, Zy (n : Nat)), (55, Zy (n : Nat)), (56, .bool false)] _ _ ?_ (by simp (maxSteps := 2000000) only [↓Za, ↓Zk, ↓Zs, ↓Zf, ↓Zn, ↓Zt, ↓Ze, ↓Zj, ↓Zg, ↓Zb, ↓Zc, ↓vdn, vup, Zl, Zh, Zi, Zm, Zo, List.map_cons, List.map_nil, cond_true, cond_false, aop, Zw, Zr, Zp, ev, sput, Zu, Zz, Yb, unK, Zd, Zx, Nat.reduceBEq, Nat.reduceAdd, Int.reduceBEq, Int.reduceBNe, Int.reduceLT, Zv, Ya, tup, tyf])
    clear hN26
    try clear N26
    refine Yc fun N27 hN27 => ?_
    simp (maxSteps := 2000000) only [s86, ↓Za, ↓Zk, ↓Zs, ↓Zf, ↓Zn, ↓Zt, ↓Ze, ↓Zj, ↓Zg, ↓Zb, ↓Zc, ↓vdn, vup, Zl, Zh, Zi, Zm, Zo, List.map_cons, List.map_nil, cond_true, cond_false, aop, Zw, Zr, Zp, ev, sput, Zu, Zz, Yb, unK, Zd, Zx, Nat.reduceBEq, Nat.reduceAdd, Int.reduceBEq, Int.reduceBNe, Int.reduceLT, Zv, Ya, tup, tyf]
    refine hQ2 _ _ _ (hQ _ _ _ ?_)
    simp (maxSteps := 2000000) only [s86, ↓Za, ↓Zk, ↓Zs, ↓Zf, ↓Zn, ↓Zt, ↓Ze, ↓Zj, ↓Zg, ↓Zb, ↓Zc, ↓vdn, vup, Zl, Zh, Zi, Zm, Zo, List.map_cons, List.map_nil, cond_true, cond_false, aop, Zw, Zr, Zp, ev, sput, Zu, Zz, Yb, unK, Zd, Zx, Nat.reduceBEq, Nat.reduceAdd, Int.reduceBEq, Int.reduceBNe, Int.reduceLT, Zv, Ya, tup, tyf, if_true]
    have hall : ngT (numT n s n) n = numL n s := by
      rw [hnl, ngT, List.take_of_length_le (by rw [numT_len]; exact Nat.le_refl _), List.drop_eq_nil_of_le (by rw [numT_len]; exact Nat.le_refl _), List.append_nil]
    rw [hall] at ho
    refine hM [(0, v), (2, nv), (3, Zy (-d)), (4, .bool false), (5, Zy (n : Nat))] _ _ ?_ (by simp (maxSteps := 2000000) only [↓Za, ↓Zk, ↓Zs, ↓Zf, ↓Zn, ↓Zt, ↓Ze, ↓Zj, ↓Zg, ↓Zb, ↓Zc, ↓vdn, vup, Zl, Zh, Zi, Zm, Zo, List.map_cons, List.map_nil, cond_true, cond_false, aop, Zw, Zr, Zp, ev, sput, Zu, Zz, Yb, unK, Zd, Zx, Nat.reduceBEq, Nat.reduceAdd, Int.reduceBEq, Int.reduceBNe, Int.reduceLT, Zv, Ya, tup, tyf])
    clear hM
    try clear M
    refine Yf ?_
    simp (maxSteps := 2000000) only [s86, ↓Za, ↓Zk, ↓Zs, ↓Zf, ↓Zn, ↓Zt, ↓Ze, ↓Zj, ↓Zg, ↓Zb, ↓Zc, ↓vdn, vup, Zl, Zh, Zi, Zm, Zo, List.map_cons, List.map_nil, cond_true, cond_false, aop, Zw, Zr, Zp, ev, sput, Zu, Zz, Yb, unK, Zd, Zx, Nat.reduceBEq, Nat.reduceAdd, Int.reduceBEq, Int.reduceBNe, Int.reduceLT, Zv, Ya, tup, tyf]
    refine ⟨hEG, ?_⟩
    rw [if_neg hdne, hd, hna]
    exact ⟨nv, rfl, ho.int⟩
  · have hna : ((d.natAbs : Nat) : Int) = d := by omega
    refine Yg fun M hM => ?_
    refine Yc fun N28 hN28 => ?_
    simp (maxSteps := 2000000) only [s86, ↓Za, ↓Zk, ↓Zs, ↓Zf, ↓Zn, ↓Zt, ↓Ze, ↓Zj, ↓Zg, ↓Zb, ↓Zc, ↓vdn, vup, Zl, Zh, Zi, Zm, Zo, List.map_cons, List.map_nil, cond_true, cond_false, aop, Zw, Zr, Zp, ev, sput, Zu, Zz, Yb, unK, Zd, Zx, Nat.reduceBEq, Nat.reduceAdd, Int.reduceBEq, Int.reduceBNe, Int.reduceLT, Zv, Ya, tup, tyf, hneg]
    refine hN28 [(0, v), (2, nv), (3, Zy d), (4, .bool false), (5, Zy (n : Nat)), (50, .bool false)] _ _ ?_ (by simp (maxSteps := 2000000) only [↓Za, ↓Zk, ↓Zs, ↓Zf, ↓Zn, ↓Zt, ↓Ze, ↓Zj, ↓Zg, ↓Zb, ↓Zc, ↓vdn, vup, Zl, Zh, Zi, Zm, Zo, List.map_cons, List.map_nil, cond_true, cond_false, aop, Zw, Zr, Zp, ev, sput, Zu, Zz, Yb, unK, Zd, Zx, Nat.reduceBEq, Nat.reduceAdd, Int.reduceBEq, Int.reduceBNe, Int.reduceLT, Zv, Ya, tup, tyf])
    clear hN28
    try clear N28
    refine Yz rfl ?_
    refine Yf ?_
    simp (maxSteps := 2000000) only [s86, ↓Za, ↓Zk, ↓Zs, ↓Zf, ↓Zn, ↓Zt, ↓Ze, ↓Zj, ↓Zg, ↓Zb, ↓Zc, ↓vdn, vup, Zl, Zh, Zi, Zm, Zo, List.map_cons, List.map_nil, cond_true, cond_false, aop, Zw, Zr, Zp, ev, sput, Zu, Zz, Yb, unK, Zd, Zx, Nat.reduceBEq, Nat.reduceAdd, Int.reduceBEq, Int.reduceBNe, Int.reduceLT, Zv, Ya, tup, tyf]
    refine hM [(0, v), (2, nv), (3, Zy d), (4, .bool false), (5, Zy (n : Nat))] _ _ ?_ (by simp (maxSteps := 2000000) only [↓Za, ↓Zk, ↓Zs, ↓Zf, ↓Zn, ↓Zt, ↓Ze, ↓Zj, ↓Zg, ↓Zb, ↓Zc, ↓vdn, vup, Zl, Zh, Zi, Zm, Zo, List.map_cons, List.map_nil, cond_true, cond_false, aop, Zw, Zr, Zp, ev, sput, Zu, Zz, Yb, unK, Zd, Zx, Nat.reduceBEq, Nat.reduceAdd, Int.reduceBEq, Int.reduceBNe, Int.reduceLT, Zv, Ya, tup, tyf])
    clear hM
    try clear M
    refine Yf ?_
    simp (maxSteps := 2000000) only [s86, ↓Za, ↓Zk, ↓Zs, ↓Zf, ↓Zn, ↓Zt, ↓Ze, ↓Zj, ↓Zg, ↓Zb, ↓Zc, ↓vdn, vup, Zl, Zh, Zi, Zm, Zo, List.map_cons, List.map_nil, cond_true, cond_false, aop, Zw, Zr, Zp, ev, sput, Zu, Zz, Yb, unK, Zd, Zx, Nat.reduceBEq, Nat.reduceAdd, Int.reduceBEq, Int.reduceBNe, Int.reduceLT, Zv, Ya, tup, tyf]
    refine ⟨hEH, ?_⟩
    rw [if_neg hdne, hd, hna, numL, if_neg (by rw [hd]; exact hneg)]
    exact ⟨nv, rfl, hnv.1.int⟩
end Go.Proofs.Tryd.Am

namespace Go.Proofs.Tryd.Am
open Go.Am Bq
set_option maxRecDepth 100000
set_option maxHeartbeats 1000000

theorem set_new (h : Yd) (A B : Blk) : (h ++ [A]).set h.length B = h ++ [B] := by
  rw [List.set_append_right _ _ (Nat.le_refl _)]; simp
def frV (x y : Int) : Value := .agg #[Zy x, Zy y]
def qV (q : Rat) : Value := frV q.num q.den
theorem low_frV (x y : Int) : Low (frV x y) := .agg fun w hw => by
  simp at hw; rcases hw with rfl | rfl <;> exact .int _ _
theorem loadF {h : Yd} {b : Nat} {x y : Int} {e : TypeId} {ro : Bool} {K : Value → Prop} (hb : h[b]? = some (.cells [Zy x, Zy y] e ro)) : Xt prog h 44 (.pointer (some ⟨b, 0, none⟩)) K = K (.agg #[Zy x, Zy y]) :=
  loadA hb (by rw [shp_44]; rfl)
theorem loadF0 {h : Yd} {b : Nat} {x y : Int} {e : TypeId} {ro : Bool} {K : Value → Prop} (hb : h[b]? = some (.cells [Zy x, Zy y] e ro)) : Xt prog h 3 (.pointer (some ⟨b, 0, none⟩)) K = K (Zy x) := loadC hb Xl rfl
theorem loadF1 {h : Yd} {b : Nat} {x y : Int} {e : TypeId} {ro : Bool} {K : Value → Prop} (hb : h[b]? = some (.cells [Zy x, Zy y] e ro)) : Xt prog h 3 (.pointer (some ⟨b, 1, none⟩)) K = K (Zy y) := loadC hb Xl rfl
theorem storeF {h : Yd} {b : Nat} {x y : Int} {e : TypeId} {c : List Value} {K : Yd → Prop} (hb : h[b]? = some (.cells c e false)) (hc : c.length = 2) : Xu prog h 44 (.pointer (some ⟨b, 0, none⟩)) (.agg #[Zy x, Zy y]) K = K (h.set b (.cells [Zy x, Zy y] e false)) :=
  storeA (vs := [Zy x, Zy y]) hb (by rw [shp_44]; rfl) rfl (by rw [hc]; rfl)
theorem bldF {x y : Int} {K : Value → Prop} : buildK prog 44 [(0, Zy x), (1, Zy y)] K = K (.agg #[Zy x, Zy y]) := by
  simp [buildK, zero_44, fillL, pl_44_0, pl_44_1, Va, cellsOf, Yr]
theorem bldF0 {K : Value → Prop} : buildK prog 44 [] K = K (.agg #[Zy 0, Zy 0]) := by
  simp [buildK, zero_44, fillL, pl_44_0]
theorem boxF {h : Yd} {x y : Int} {K : Value → Yd → Prop} : boxK prog h 44 (.agg #[Zy x, Zy y]) K = K (Wd h) (h ++ [.cells [Zy x, Zy y] 44 false]) := by
  simp [boxK, esz_44, Wd, cellsOf]
theorem fA0 {b : Nat} {K : Value → Prop} : Xr prog 44 (.pointer (some ⟨b, 0, none⟩)) 0 K = K (.pointer (some ⟨b, 0, none⟩)) := fldA fld_44_0 Xi
theorem fA1 {b : Nat} {K : Value → Prop} : Xr prog 44 (.pointer (some ⟨b, 0, none⟩)) 1 K = K (.pointer (some ⟨b, 1, none⟩)) := fldA fld_44_1 Xi
theorem quo_dvd {x y : Int} (hx : x.natAbs < 9223372036854775808) (hd : y ∣ x) : quoV .i64 x y = x / y := by
  rw [quoV, Int.tdiv_eq_ediv_of_dvd hd]
  have h1 : (x / y).natAbs ≤ x.natAbs := by
    obtain ⟨t, rfl⟩ := hd
    rcases Int.lt_trichotomy y 0 with h | h | h
    · rw [Int.mul_ediv_cancel_left _ (by omega), Int.natAbs_mul]; exact Nat.le_mul_of_pos_left _ (by omega)
    · subst h; simp
    · rw [Int.mul_ediv_cancel_left _ (by omega), Int.natAbs_mul]; exact Nat.le_mul_of_pos_left _ (by omega)
  exact wrap_id (by omega) (by omega)
theorem tmod_abs (x : Int) {y : Int} (hy : y ≠ 0) : (x.tmod y).natAbs < y.natAbs := by
  rw [Int.natAbs_tmod]; exact Nat.mod_lt _ (by omega)
theorem gcd_tmod (x y : Int) : Nat.gcd y.natAbs (x.tmod y).natAbs = Nat.gcd x.natAbs y.natAbs := by
  rw [Int.natAbs_tmod, Nat.gcd_comm y.natAbs, ← Nat.gcd_rec, Nat.gcd_comm]
theorem max_abs {x : Int} (hx : x.natAbs < 9223372036854775808) : (if subV .i64 0 x > x then subV .i64 0 x else x) = (x.natAbs : Int) := by
  rw [subV_id (by omega) (by omega)]; split <;> omega

theorem gcd_call [Tabs prog] {h : Yd} {a b : Int} (ha : a.natAbs < 9223372036854775808 ∨ b ≠ 0) (hb2 : b.natAbs < 9223372036854775808) : APure prog 90 [Zy a, Zy b] h (Zy (Nat.gcd a.natAbs b.natAbs : Nat)) := by
  refine s90_call (by simp) ?_
  simp only [s90]
  simp (maxSteps := 2000000) only [s90, ↓Za, ↓Zk, ↓Zs, ↓Zf, ↓Zn, ↓Zt, ↓Ze, ↓Zj, ↓Zg, ↓Zb, ↓Zc, ↓vdn, vup, Zl, Zh, Zi, Zm, Zo, List.map_cons, List.map_nil, cond_true, cond_false, aop, Zw, Zr, Zp, ev, sput, Zu, Zz, Yb, unK, Zd, Zx, Nat.reduceBEq, Nat.reduceAdd, Int.reduceBEq, Int.reduceBNe, Int.reduceLT, Zv, Ya, tup, tyf, ↓Xd]
  refine Yh fun Q hQ => ?_
  refine Wt (γ := Int × Int) (fun s => Nat.gcd s.1.natAbs s.2.natAbs = Nat.gcd a.natAbs b.natAbs ∧ (s.1.natAbs < 9223372036854775808 ∨ s.2 ≠ 0) ∧ s.2.natAbs < 9223372036854775808)
    (fun s => ([(0, Zy s.1), (1, Zy s.2), (4, .int .i64 0)], h)) (fun s => s.2.natAbs) (a, b) ⟨rfl, ha, hb2⟩ (by simp (maxSteps := 2000000) only [↓Za, ↓Zk, ↓Zs, ↓Zf, ↓Zn, ↓Zt, ↓Ze, ↓Zj, ↓Zg, ↓Zb, ↓Zc, ↓vdn, vup, Zl, Zh, Zi, Zm, Zo, List.map_cons, List.map_nil, cond_true, cond_false, aop, Zw, Zr, Zp, ev, sput, Zu, Zz, Yb, unK, Zd, Zx, Nat.reduceBEq, Nat.reduceAdd, Int.reduceBEq, Int.reduceBNe, Int.reduceLT, Zv, Ya, tup, tyf]) rfl ?_
  rintro ⟨x, y⟩ ⟨hxy, hx, hy⟩
  simp only at hxy hx hy
  refine Wr fun Q2 hQ2 => ?_
  by_cases hy0 : y = 0
  · subst hy0
    have e0 : ((0 : Int) != 0) = false := rfl
    rw [Int.natAbs_zero, Nat.gcd_zero_right] at hxy
    have hx' : x.natAbs < 9223372036854775808 := hx.resolve_right (by simp)
    simp (maxSteps := 2000000) only [s90, ↓Za, ↓Zk, ↓Zs, ↓Zf, ↓Zn, ↓Zt, ↓Ze, ↓Zj, ↓Zg, ↓Zb, ↓Zc, ↓vdn, vup, Zl, Zh, Zi, Zm, Zo, List.map_cons, List.map_nil, cond_true, cond_false, aop, Zw, Zr, Zp, ev, sput, Zu, Zz, Yb, unK, Zd, Zx, Nat.reduceBEq, Nat.reduceAdd, Int.reduceBEq, Int.reduceBNe, Int.reduceLT, Zv, Ya, tup, tyf, l90_0, e0]
    refine hQ2 _ _ _ (hQ _ _ _ ?_)
    simp (maxSteps := 2000000) only [s90, ↓Za, ↓Zk, ↓Zs, ↓Zf, ↓Zn, ↓Zt, ↓Ze, ↓Zj, ↓Zg, ↓Zb, ↓Zc, ↓vdn, vup, Zl, Zh, Zi, Zm, Zo, List.map_cons, List.map_nil, cond_true, cond_false, aop, Zw, Zr, Zp, ev, sput, Zu, Zz, Yb, unK, Zd, Zx, Nat.reduceBEq, Nat.reduceAdd, Int.reduceBEq, Int.reduceBNe, Int.reduceLT, Zv, Ya, tup, tyf, if_true, mmK, max_abs hx', hxy]
  · have e0 : (y != 0) = true := by simpa using hy0
    simp (maxSteps := 2000000) only [s90, ↓Za, ↓Zk, ↓Zs, ↓Zf, ↓Zn, ↓Zt, ↓Ze, ↓Zj, ↓Zg, ↓Zb, ↓Zc, ↓vdn, vup, Zl, Zh, Zi, Zm, Zo, List.map_cons, List.map_nil, cond_true, cond_false, aop, Zw, Zr, Zp, ev, sput, Zu, Zz, Yb, unK, Zd, Zx, Nat.reduceBEq, Nat.reduceAdd, Int.reduceBEq, Int.reduceBNe, Int.reduceLT, Zv, Ya, tup, tyf, l90_0, e0]
    refine Wc [] (by kernel_rfl) (by kernel_rfl) (by kernel_rfl) (by kernel_rfl) ?_
    simp (maxSteps := 2000000) only [s90, ↓Za, ↓Zk, ↓Zs, ↓Zf, ↓Zn, ↓Zt, ↓Ze, ↓Zj, ↓Zg, ↓Zb, ↓Zc, ↓vdn, vup, Zl, Zh, Zi, Zm, Zo, List.map_cons, List.map_nil, cond_true, cond_false, aop, Zw, Zr, Zp, ev, sput, Zu, Zz, Yb, unK, Zd, Zx, Nat.reduceBEq, Nat.reduceAdd, Int.reduceBEq, Int.reduceBNe, Int.reduceLT, Zv, Ya, tup, tyf, ne_eq, hy0, not_false_eq_true]
    have hlt := tmod_abs x hy0
    exact hQ2 _ _ _ ⟨(y, x.tmod y), ⟨by simp only; rw [gcd_tmod, hxy], .inl hy, by simp only; omega⟩, hlt, by simp (maxSteps := 2000000) only [↓Za, ↓Zk, ↓Zs, ↓Zf, ↓Zn, ↓Zt, ↓Ze, ↓Zj, ↓Zg, ↓Zb, ↓Zc, ↓vdn, vup, Zl, Zh, Zi, Zm, Zo, List.map_cons, List.map_nil, cond_true, cond_false, aop, Zw, Zr, Zp, ev, sput, Zu, Zz, Yb, unK, Zd, Zx, Nat.reduceBEq, Nat.reduceAdd, Int.reduceBEq, Int.reduceBNe, Int.reduceLT, Zv, Ya, tup, tyf], rfl⟩

theorem terms {x : Int} {n : Nat} (hn : 0 < n) : x / ((Nat.gcd x.natAbs n : Nat) : Int) = (Rat.divInt x n).num ∧ ((n / Nat.gcd x.natAbs n : Nat) : Int) = (Rat.divInt x n).den := by
  rw [Rat.divInt_ofNat, Rat.num_mkRat, Rat.den_mkRat, if_neg (by omega), if_neg (by omega), Nat.gcd_comm n]
  exact ⟨rfl, rfl⟩
theorem gcd_dvd_int (x : Int) (n : Nat) : ((Nat.gcd x.natAbs n : Nat) : Int) ∣ x := Int.dvd_natAbs.1 (Int.natCast_dvd_natCast.2 (Nat.gcd_dvd_left _ _))

theorem s88_callW [Tabs Tryd.prog] {args : List Value} {h : Yd} {Q : Value → Yd → Prop} (hsz : args.length ≤ 22) (hk : AWS Tryd.prog 22 s88 (Zv Tryd.prog [.cell 4 44] Q) (Zp 0 args) h) : ACall Tryd.prog 88 args h Q :=
  Wb Tryd.func88 rfl (enters_of Tryd.func88 (by kernel_rfl) rfl) rfl rfl (by decide) s88_strip s88_ok hsz hk
theorem frac_call [Tabs prog] {h : Yd} {a b : Int} (hb : b ≠ 0) (ha : a.natAbs < 9223372036854775808) (hb2 : b.natAbs < 9223372036854775808) : APure prog 88 [Zy a, Zy b] h (qV (Rat.divInt a b)) := by
  have c0 := Xp h (Blk.cells [.int .i64 0, .int .i64 0] 44 false)
  have hE0 : Ext (fun _ => False) h (h ++ [Blk.cells [.int .i64 0, .int .i64 0] 44 false]) := Ext.app _ _ _
  obtain ⟨x, n, hn, hx, hn2, hq, hneg, hpos⟩ : ∃ (x : Int) (n : Nat), 0 < n ∧ x.natAbs < 9223372036854775808 ∧ n < 9223372036854775808 ∧ Rat.divInt x n = Rat.divInt a b ∧ (b < 0 → subV .i64 0 a = x ∧ subV .i64 0 b = n) ∧ (¬ b < 0 → a = x ∧ b = n) := by
    by_cases h0 : b < 0
    · refine ⟨-a, b.natAbs, by omega, by omega, hb2, ?_, fun _ => ⟨?_, ?_⟩, fun h => absurd h0 h⟩
      · rw [show ((b.natAbs : Nat) : Int) = -b by omega]; exact Rat.neg_divInt_neg a b
      · rw [subV_id (by omega) (by omega)]; omega
      · rw [subV_id (by omega) (by omega)]; omega
    · exact ⟨a, b.natAbs, by omega, ha, hb2, by rw [show ((b.natAbs : Nat) : Int) = b by omega], fun h => absurd h h0, fun _ => ⟨rfl, by omega⟩⟩
  refine ACall.forget (low_frV _ _) ?_
  refine s88_callW (by simp) ?_
  simp only [s88]
  refine Yc fun N1 hN1 => ?_
  simp (maxSteps := 2000000) only [s88, ↓Za, ↓Zk, ↓Zs, ↓Zf, ↓Zn, ↓Zt, ↓Ze, ↓Zj, ↓Zg, ↓Zb, ↓Zc, ↓vdn, vup, Zl, Zh, Zi, Zm, Zo, List.map_cons, List.map_nil, cond_true, cond_false, aop, Zw, Zr, Zp, ev, sput, Zu, Zz, Yb, unK, Zd, Zx, Nat.reduceBEq, Nat.reduceAdd, Int.reduceBEq, Int.reduceBNe, Int.reduceLT, Zv, Ya, tup, tyf, Ve, Wd, zero_44]
  refine hN1 [(0, Zy a), (1, Zy b), (4, .pointer (some ⟨h.length, 0, none⟩))] _ _ ?_ (by simp (maxSteps := 2000000) only [↓Za, ↓Zk, ↓Zs, ↓Zf, ↓Zn, ↓Zt, ↓Ze, ↓Zj, ↓Zg, ↓Zb, ↓Zc, ↓vdn, vup, Zl, Zh, Zi, Zm, Zo, List.map_cons, List.map_nil, cond_true, cond_false, aop, Zw, Zr, Zp, ev, sput, Zu, Zz, Yb, unK, Zd, Zx, Nat.reduceBEq, Nat.reduceAdd, Int.reduceBEq, Int.reduceBNe, Int.reduceLT, Zv, Ya, tup, tyf])
  clear hN1
  try clear N1
  refine Yc fun M hM => ?_
  have key : ∀ e, ELe e [(0, Zy x), (1, Zy (n : Int)), (4, .pointer (some ⟨h.length, 0, none⟩))] → M e (h ++ [Blk.cells [.int .i64 0, .int .i64 0] 44 false]) := by
    intro e he
    refine hM [(0, Zy x), (1, Zy (n : Int)), (4, .pointer (some ⟨h.length, 0, none⟩))] _ _ ?_ he
    refine Yc fun N2 hN2 => ?_
    simp (maxSteps := 2000000) only [s88, ↓Za, ↓Zk, ↓Zs, ↓Zf, ↓Zn, ↓Zt, ↓Ze, ↓Zj, ↓Zg, ↓Zb, ↓Zc, ↓vdn, vup, Zl, Zh, Zi, Zm, Zo, List.map_cons, List.map_nil, cond_true, cond_false, aop, Zw, Zr, Zp, ev, sput, Zu, Zz, Yb, unK, Zd, Zx, Nat.reduceBEq, Nat.reduceAdd, Int.reduceBEq, Int.reduceBNe, Int.reduceLT, Zv, Ya, tup, tyf, Yy, List.nil_append, List.append_nil, List.toList_toArray, List.cons_append]
    refine (gcd_call (.inl hx) (by omega)).mono ?_
    rintro _ _ ⟨rfl, rfl⟩
    rw [Int.natAbs_natCast]
    refine hN2 [(0, Zy x), (1, Zy (n : Int)), (4, .pointer (some ⟨h.length, 0, none⟩)), (5, Zy (Nat.gcd x.natAbs n : Nat))] _ _ ?_ (by simp (maxSteps := 2000000) only [↓Za, ↓Zk, ↓Zs, ↓Zf, ↓Zn, ↓Zt, ↓Ze, ↓Zj, ↓Zg, ↓Zb, ↓Zc, ↓vdn, vup, Zl, Zh, Zi, Zm, Zo, List.map_cons, List.map_nil, cond_true, cond_false, aop, Zw, Zr, Zp, ev, sput, Zu, Zz, Yb, unK, Zd, Zx, Nat.reduceBEq, Nat.reduceAdd, Int.reduceBEq, Int.reduceBNe, Int.reduceLT, Zv, Ya, tup, tyf])
    clear hN2
    try clear N2
    have hg : ¬ ((Nat.gcd x.natAbs n : Nat) : Int) = 0 := by have := Nat.gcd_pos_of_pos_right x.natAbs hn; omega
    have q1 : quoV .i64 x ((Nat.gcd x.natAbs n : Nat) : Int) = (Rat.divInt a b).num := by rw [quo_dvd hx (gcd_dvd_int _ _), (terms hn).1, hq]
    have q2 : quoV .i64 (n : Int) ((Nat.gcd x.natAbs n : Nat) : Int) = (Rat.divInt a b).den := by
      rw [quo_dvd (by omega) (Int.natCast_dvd_natCast.2 (Nat.gcd_dvd_right _ _)), ← hq, ← (terms hn).2, Int.natCast_ediv]
    refine Yf ?_
    simp only [q88_4]
    refine aw_cut fun N hN => ?_
    refine Wc [] (by kernel_rfl) (by kernel_rfl) (by kernel_rfl) (by kernel_rfl) ?_
    simp (maxSteps := 2000000) only [s88, ↓Za, ↓Zk, ↓Zs, ↓Zf, ↓Zn, ↓Zt, ↓Ze, ↓Zj, ↓Zg, ↓Zb, ↓Zc, ↓vdn, vup, Zl, Zh, Zi, Zm, Zo, List.map_cons, List.map_nil, cond_true, cond_false, aop, Zw, Zr, Zp, ev, sput, Zu, Zz, Yb, unK, Zd, Zx, Nat.reduceBEq, Nat.reduceAdd, Int.reduceBEq, Int.reduceBNe, Int.reduceLT, Zv, Ya, tup, tyf, ne_eq, hg, not_false_eq_true, q1, q2, List.toList_toArray, bldF, storeF c0 rfl]
    refine hN _ _ ?_
    simp (maxSteps := 2000000) only [s88, ↓Za, ↓Zk, ↓Zs, ↓Zf, ↓Zn, ↓Zt, ↓Ze, ↓Zj, ↓Zg, ↓Zb, ↓Zc, ↓vdn, vup, Zl, Zh, Zi, Zm, Zo, List.map_cons, List.map_nil, cond_true, cond_false, aop, Zw, Zr, Zp, ev, sput, Zu, Zz, Yb, unK, Zd, Zx, Nat.reduceBEq, Nat.reduceAdd, Int.reduceBEq, Int.reduceBNe, Int.reduceLT, Zv, Ya, tup, tyf, loadF (get_set (h := h ++ [Blk.cells [.int .i64 0, .int .i64 0] 44 false]) (b := h.length) (by simp) _)]
    exact ⟨rfl, hE0.set_ge (Nat.le_refl _) _⟩
  by_cases hb0 : b < 0
  · simp (maxSteps := 2000000) only [s88, ↓Za, ↓Zk, ↓Zs, ↓Zf, ↓Zn, ↓Zt, ↓Ze, ↓Zj, ↓Zg, ↓Zb, ↓Zc, ↓vdn, vup, Zl, Zh, Zi, Zm, Zo, List.map_cons, List.map_nil, cond_true, cond_false, aop, Zw, Zr, Zp, ev, sput, Zu, Zz, Yb, unK, Zd, Zx, Nat.reduceBEq, Nat.reduceAdd, Int.reduceBEq, Int.reduceBNe, Int.reduceLT, Zv, Ya, tup, tyf, hb0, (hneg hb0).1, (hneg hb0).2]
    exact key _ (by simp (maxSteps := 2000000) only [↓Za, ↓Zk, ↓Zs, ↓Zf, ↓Zn, ↓Zt, ↓Ze, ↓Zj, ↓Zg, ↓Zb, ↓Zc, ↓vdn, vup, Zl, Zh, Zi, Zm, Zo, List.map_cons, List.map_nil, cond_true, cond_false, aop, Zw, Zr, Zp, ev, sput, Zu, Zz, Yb, unK, Zd, Zx, Nat.reduceBEq, Nat.reduceAdd, Int.reduceBEq, Int.reduceBNe, Int.reduceLT, Zv, Ya, tup, tyf])
  · simp (maxSteps := 2000000) only [s88, ↓Za, ↓Zk, ↓Zs, ↓Zf, ↓Zn, ↓Zt, ↓Ze, ↓Zj, ↓Zg, ↓Zb, ↓Zc, ↓vdn, vup, Zl, Zh, Zi, Zm, Zo, List.map_cons, List.map_nil, cond_true, cond_false, aop, Zw, Zr, Zp, ev, sput, Zu, Zz, Yb, unK, Zd, Zx, Nat.reduceBEq, Nat.reduceAdd, Int.reduceBEq, Int.reduceBNe, Int.reduceLT, Zv, Ya, tup, tyf, hb0]
    exact key _ (by simp (maxSteps := 2000000) only [↓Za, ↓Zk, ↓Zs, ↓Zf, ↓Zn, ↓Zt, ↓Ze, ↓Zj, ↓Zg, ↓Zb, ↓Zc, ↓vdn, vup, Zl, Zh, Zi, Zm, Zo, List.map_cons, List.map_nil, cond_true, cond_false, aop, Zw, Zr, Zp, ev, sput, Zu, Zz, Yb, unK, Zd, Zx, Nat.reduceBEq, Nat.reduceAdd, Int.reduceBEq, Int.reduceBNe, Int.reduceLT, Zv, Ya, tup, tyf, (hpos hb0).1, (hpos hb0).2])
theorem less_call [Tabs prog] {h : Yd} {a b c d : Int} (h1 : -9223372036854775808 ≤ a * d ∧ a * d < 9223372036854775808) (h2 : -9223372036854775808 ≤ c * b ∧ c * b < 9223372036854775808) : APure prog 66 [frV a b, frV c d] h (.bool (decide (a * d < c * b))) := by
  refine ACall.forget (.bool _) ?_
  have e1 := get_old (Xp h (Blk.cells [Zy a, Zy b] 44 false)) [Blk.cells [Zy c, Zy d] 44 false]
  have e2 := Xp (h ++ [Blk.cells [Zy a, Zy b] 44 false]) (Blk.cells [Zy c, Zy d] 44 false)
  have hE : Ext (fun _ => False) h (h ++ [Blk.cells [Zy a, Zy b] 44 false] ++ [Blk.cells [Zy c, Zy d] 44 false]) := (Ext.app _ _ _).trans (Ext.app _ _ _)
  refine s66_call (by simp) ?_
  simp only [s66, frV]
  simp (maxSteps := 2000000) only [s66, ↓Za, ↓Zk, ↓Zs, ↓Zf, ↓Zn, ↓Zt, ↓Ze, ↓Zj, ↓Zg, ↓Zb, ↓Zc, ↓vdn, vup, Zl, Zh, Zi, Zm, Zo, List.map_cons, List.map_nil, cond_true, cond_false, aop, Zw, Zr, Zp, ev, sput, Zu, Zz, Yb, unK, Zd, Zx, Nat.reduceBEq, Nat.reduceAdd, Int.reduceBEq, Int.reduceBNe, Int.reduceLT, Zv, Ya, tup, tyf, boxF, Wd, fA0, fA1, loadF0 e1, loadF1 e1, loadF0 e2, loadF1 e2, mulV_id h1.1 h1.2, mulV_id h2.1 h2.2]
  exact hE
end Go.Proofs.Tryd.Am

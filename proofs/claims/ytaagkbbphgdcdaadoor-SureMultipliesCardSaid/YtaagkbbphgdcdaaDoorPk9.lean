/-
  sure: the corners, one after another.
  sure: the corners, one after another: the whole walk.
  sure: sets within others bound nothing more. Plain Lean, no program.
-/
import Derived.Test.YtaagkbbphgdcdaaDoorPk8
import Derived.Test.YtaagkbbphgdcdaaDoorPk3
set_option linter.all false
namespace Go.Proofs.Tryd.Am
open Go.Am Bq
set_option maxRecDepth 100000
set_option maxHeartbeats 4000000

theorem sub_cons {k : Nat} {t : List Nat} : ∀ {n a : Nat}, (k :: t).Sublist (List.range' a n) → a ≤ k ∧ k < a + n ∧ t.Sublist (List.range' (k + 1) (a + n - (k + 1)))
  | 0, a, h => by simp at h
  | n + 1, a, h => by
    rw [List.range'_succ] at h
    cases h with
    | cons _ h =>
      obtain ⟨h1, h2, h3⟩ := sub_cons h
      refine ⟨by omega, by omega, ?_⟩
      rw [show a + (n + 1) - (k + 1) = a + 1 + n - (k + 1) by omega]; exact h3
    | cons_cons _ h =>
      refine ⟨Nat.le_refl _, by omega, ?_⟩
      rw [show k + (n + 1) - (k + 1) = n by omega]; exact h
def KG (h0 : Yd) (pb : Nat) (h : Yd) : Prop := Ext (fun b => b = pb) h0 h
theorem KG.at_ {h0 h : Yd} {pb b : Nat} {B : Blk} (k : KG h0 pb h) (hb : h0[b]? = some B) (hn : b ≠ pb) : h[b]? = some B := (k.2 b (Yx hb) hn).trans hb
def bC (q : Rat) : Blk := .cells [Zy q.num, Zy q.den] 44 false
structure GE (n : Nat) (sets : List Nat) (rws : List Value) (h0 : Yd) (pn pr pg ps pb : Nat) (rv sv : Value) : Prop where
  n1 : 1 ≤ n
  n6 : n ≤ 6
  lt : ∀ s ∈ sets, s < 2 ^ n
  l : sets.length < 1000
  nb : h0[pn]? = some (.cells [Zy (n : Nat)] 3 false)
  rb : h0[pr]? = some (.cells [rv] 82 false)
  gb : h0[pg]? = some (.cells [.func (.func 85) #[] #[.pointer (some ⟨pn, 0, none⟩), .pointer (some ⟨pr, 0, none⟩), .pointer (some ⟨pg, 0, none⟩), .pointer (some ⟨ps, 0, none⟩), .pointer (some ⟨pb, 0, none⟩)]] 83 false)
  sb : h0[ps]? = some (.cells [sv] 22 false)
  fn : pn ≠ pb
  fr : pr ≠ pb
  fg : pg ≠ pb
  fs : ps ≠ pb
  rows : ∀ H, KG h0 pb H → ValSl H rv rws ∧ Each (IntSl H) rws ((List.range (sets.length + n)).map (rowI n sets))
  st : ∀ H, KG h0 pb H → IntSl H sv (sets.map fun s => ((s : Nat) : Int))
def Att (n : Nat) (sets : List Nat) (q : Rat) : Prop := (∃ x, PFeas n sets x ∧ sumTo x n = q) ∧ q.num.natAbs ≤ 4320 ∧ q.den ≤ 720
def GR (n : Nat) (sets : List Nat) (pb : Nat) (h : Yd) (q : Rat) (B : List Nat) (fr d : Nat) (h' : Yd) : Prop :=
  Ext (fun b => b = pb) h h' ∧ ∃ q', h'[pb]? = some (bC q') ∧ Att n sets q' ∧ q ≤ q' ∧ ∀ t : List Nat, t.Sublist (List.range' fr (sets.length + n - fr)) → t.length = d → ∀ x, Corner n sets (B ++ t) x → sumTo x n ≤ q'
theorem numL_get {n : Nat} {s : List (List Int)} {j : Nat} (hj : j < n) : (numL n s).getD j 0 = if pdet n s < 0 then - pdet n (s.map (putR n j)) else pdet n (s.map (putR n j)) := by
  rw [numL]
  split
  · rw [List.getD, List.getElem?_map, numT, List.getElem?_map, List.getElem?_range hj]; rfl
  · exact numT_get hj
theorem numL_len (n : Nat) (s : List (List Int)) : (numL n s).length = n := by
  rw [numL]; split
  · rw [List.length_map, numT_len]
  · exact numT_len _ _ _
theorem numL_rat {n : Nat} {s : List (List Int)} {y : Nat → Rat} (h : ∀ j, j < n → ((pdet n (s.map (putR n j)) : Int) : Rat) = y j * ((pdet n s : Int) : Rat)) {j : Nat} (hj : j < n) : (((numL n s).getD j 0 : Int) : Rat) = y j * (((pdet n s).natAbs : Int) : Rat) := by
  rw [numL_get hj]
  by_cases h0 : pdet n s < 0
  · rw [if_pos h0, show (((pdet n s).natAbs : Nat) : Int) = - pdet n s by omega, Rat.intCast_neg, Rat.intCast_neg, h j hj]; grind
  · rw [if_neg h0, show (((pdet n s).natAbs : Nat) : Int) = pdet n s by omega, h j hj]

theorem s85_callW [Tabs Tryd.prog] {args : List Value} {h : Yd} {Q : Value → Yd → Prop} (hsz : args.length ≤ 105) (hk : AWS Tryd.prog 105 s85 (Zv Tryd.prog [] Q) (Zp 0 args) h) : ACall Tryd.prog 85 args h Q :=
  Xq Tryd.func85 rfl (enters_of Tryd.func85 (by kernel_rfl) rfl) rfl rfl (by decide) s85_strip s85_ok hsz hk
theorem leaf_call [Tabs prog] {n : Nat} {sets : List Nat} {rws : List Value} {h0 : Yd} {pn pr pg ps pb : Nat} {rv sv : Value} (ge : GE n sets rws h0 pn pr pg ps pb rv sv) {fr : Nat} {B : List Nat} {h : Yd} {v : Value} {q : Rat} (hB : B.length = n) (hk : KG h0 pb h)
    (hv : RowsI h v (rowsI n sets B)) (hq : h[pb]? = some (bC q)) (ha : Att n sets q) (hbB : ∀ x, Corner n sets B x → Corner n sets (B ++ []) x) :
    ACall prog 85 [Zy (fr : Nat), v, .pointer (some ⟨pn, 0, none⟩), .pointer (some ⟨pr, 0, none⟩), .pointer (some ⟨pg, 0, none⟩), .pointer (some ⟨ps, 0, none⟩), .pointer (some ⟨pb, 0, none⟩)] h fun _ h' => GR n sets pb h q B fr 0 h' := by
  have hkn := hk.at_ ge.nb ge.fn
  have hks := hk.at_ ge.sb ge.fs
  have h6 := ge.n6
  have hlen : (rowsI n sets B).length = n := by rw [rowsI, List.length_map, hB]
  have hr01 : ∀ r ∈ rowsI n sets B, r.length = n + 1 ∧ ∀ y ∈ r, y = 0 ∨ y = 1 := fun r hr => by
    obtain ⟨k, _, rfl⟩ := List.mem_map.1 hr
    exact ⟨rowI_len n sets k, rowI_01⟩
  -- nothing new where the sequence is no corner
  have none_ : ∀ h', Ext (fun b => b = pb) h h' → h'[pb]? = some (bC q) → (∀ x, ¬ Corner n sets B x) → GR n sets pb h q B fr 0 h' := fun h' hE hb hno =>
    ⟨hE, q, hb, ha, Rat.le_refl, fun t _ ht x hx => by
      obtain rfl : t = [] := List.length_eq_zero_iff.1 ht
      rw [List.append_nil] at hx
      exact absurd hx (hno x)⟩
  have mono : ∀ {h' : Yd}, Ext (fun _ => False) h h' → Ext (fun b => b = pb) h h' ∧ h'[pb]? = some (bC q) := fun {h'} hE => ⟨hE.mono fun _ h => h.elim, (hE.2 _ (Yx hq) id).trans hq⟩
  obtain ⟨ws, w1, w2⟩ := id hv
  have hwl : ws.length = n := w2.len.trans hlen
  have hnn : ¬ ((n : Int) < n) := by omega
  refine s85_callW (by simp) ?_
  simp only [s85]
  refine Yf fun M hM => ?_
  refine Yc fun N1 hN1 => ?_
  simp (maxSteps := 2000000) only [s85, ↓Za, ↓Zk, ↓Zs, ↓Ze, ↓Zj, ↓Zt, ↓Zg, ↓Zm, ↓Zf, ↓Zc, ↓Zb, ↓vdn, vup, Zo, Zh, Zi, Zn, Zl, List.map_cons, List.map_nil, cond_true, cond_false, aop, Zw, Zr, Zp, ev, sput, Zu, Zz, Yb, unK, Zd, Zx, Nat.reduceBEq, Nat.reduceAdd, Int.reduceBEq, Int.reduceBNe, Int.reduceLT, Zv, Ya, tup, tyf, w1.len, hwl, Wz hkn Xj, hnn]
  refine hN1 [(0, Zy (fr : Nat)), (1, v), (2, .pointer (some ⟨pn, 0, none⟩)), (3, .pointer (some ⟨pr, 0, none⟩)), (4, .pointer (some ⟨pg, 0, none⟩)), (5, .pointer (some ⟨ps, 0, none⟩)), (6, .pointer (some ⟨pb, 0, none⟩)), (25, .bool false)] _ _ ?_ (by simp (maxSteps := 2000000) only [↓Za, ↓Zk, ↓Zs, ↓Ze, ↓Zj, ↓Zt, ↓Zg, ↓Zm, ↓Zf, ↓Zc, ↓Zb, ↓vdn, vup, Zo, Zh, Zi, Zn, Zl, List.map_cons, List.map_nil, cond_true, cond_false, aop, Zw, Zr, Zp, ev, sput, Zu, Zz, Yb, unK, Zd, Zx, Nat.reduceBEq, Nat.reduceAdd, Int.reduceBEq, Int.reduceBNe, Int.reduceLT, Zv, Ya, tup, tyf])
  clear hN1
  try clear N1
  refine Yy rfl ?_
  refine Ye ?_
  simp (maxSteps := 2000000) only [s85, ↓Za, ↓Zk, ↓Zs, ↓Ze, ↓Zj, ↓Zt, ↓Zg, ↓Zm, ↓Zf, ↓Zc, ↓Zb, ↓vdn, vup, Zo, Zh, Zi, Zn, Zl, List.map_cons, List.map_nil, cond_true, cond_false, aop, Zw, Zr, Zp, ev, sput, Zu, Zz, Yb, unK, Zd, Zx, Nat.reduceBEq, Nat.reduceAdd, Int.reduceBEq, Int.reduceBNe, Int.reduceLT, Zv, Ya, tup, tyf]
  refine hM [(0, Zy (fr : Nat)), (1, v), (2, .pointer (some ⟨pn, 0, none⟩)), (3, .pointer (some ⟨pr, 0, none⟩)), (4, .pointer (some ⟨pg, 0, none⟩)), (5, .pointer (some ⟨ps, 0, none⟩)), (6, .pointer (some ⟨pb, 0, none⟩))] _ _ ?_ (by simp (maxSteps := 2000000) only [↓Za, ↓Zk, ↓Zs, ↓Ze, ↓Zj, ↓Zt, ↓Zg, ↓Zm, ↓Zf, ↓Zc, ↓Zb, ↓vdn, vup, Zo, Zh, Zi, Zn, Zl, List.map_cons, List.map_nil, cond_true, cond_false, aop, Zw, Zr, Zp, ev, sput, Zu, Zz, Yb, unK, Zd, Zx, Nat.reduceBEq, Nat.reduceAdd, Int.reduceBEq, Int.reduceBNe, Int.reduceLT, Zv, Ya, tup, tyf])
  clear hM
  try clear M
  refine Yc fun N2 hN2 => ?_
  simp (maxSteps := 2000000) only [s85, ↓Za, ↓Zk, ↓Zs, ↓Ze, ↓Zj, ↓Zt, ↓Zg, ↓Zm, ↓Zf, ↓Zc, ↓Zb, ↓vdn, vup, Zo, Zh, Zi, Zn, Zl, List.map_cons, List.map_nil, cond_true, cond_false, aop, Zw, Zr, Zp, ev, sput, Zu, Zz, Yb, unK, Zd, Zx, Nat.reduceBEq, Nat.reduceAdd, Int.reduceBEq, Int.reduceBNe, Int.reduceLT, Zv, Ya, tup, tyf, Yv, List.nil_append, List.append_nil, List.toList_toArray, List.cons_append]
  refine (solve_call h6 hlen hr01 hv).mono ?_
  rintro r h1 ⟨hE1, hr⟩
  obtain ⟨d, hd⟩ : ∃ d, pdet n (rowsI n sets B) = d := ⟨_, rfl⟩
  rw [hd] at hr
  by_cases hd0 : d = 0
  · rw [if_pos hd0] at hr
    subst hr
    simp (maxSteps := 2000000) only [s85, ↓Za, ↓Zk, ↓Zs, ↓Ze, ↓Zj, ↓Zt, ↓Zg, ↓Zm, ↓Zf, ↓Zc, ↓Zb, ↓vdn, vup, Zo, Zh, Zi, Zn, Zl, List.map_cons, List.map_nil, cond_true, cond_false, aop, Zw, Zr, Zp, ev, sput, Zu, Zz, Yb, unK, Zd, Zx, Nat.reduceBEq, Nat.reduceAdd, Int.reduceBEq, Int.reduceBNe, Int.reduceLT, Zv, Ya, tup, tyf]
    refine hN2 [(0, Zy (fr : Nat)), (1, v), (2, .pointer (some ⟨pn, 0, none⟩)), (3, .pointer (some ⟨pr, 0, none⟩)), (4, .pointer (some ⟨pg, 0, none⟩)), (5, .pointer (some ⟨ps, 0, none⟩)), (6, .pointer (some ⟨pb, 0, none⟩)), (10, .slice none 0 0), (11, .int .i64 0), (12, .bool false)] _ _ ?_ (by simp (maxSteps := 2000000) only [↓Za, ↓Zk, ↓Zs, ↓Ze, ↓Zj, ↓Zt, ↓Zg, ↓Zm, ↓Zf, ↓Zc, ↓Zb, ↓vdn, vup, Zo, Zh, Zi, Zn, Zl, List.map_cons, List.map_nil, cond_true, cond_false, aop, Zw, Zr, Zp, ev, sput, Zu, Zz, Yb, unK, Zd, Zx, Nat.reduceBEq, Nat.reduceAdd, Int.reduceBEq, Int.reduceBNe, Int.reduceLT, Zv, Ya, tup, tyf])
    clear hN2
    try clear N2
    refine Yf fun M hM => ?_
    refine Yc fun N3 hN3 => ?_
    simp (maxSteps := 2000000) only [s85, ↓Za, ↓Zk, ↓Zs, ↓Ze, ↓Zj, ↓Zt, ↓Zg, ↓Zm, ↓Zf, ↓Zc, ↓Zb, ↓vdn, vup, Zo, Zh, Zi, Zn, Zl, List.map_cons, List.map_nil, cond_true, cond_false, aop, Zw, Zr, Zp, ev, sput, Zu, Zz, Yb, unK, Zd, Zx, Nat.reduceBEq, Nat.reduceAdd, Int.reduceBEq, Int.reduceBNe, Int.reduceLT, Zv, Ya, tup, tyf, Bool.not_false]
    refine hN3 [(0, Zy (fr : Nat)), (1, v), (2, .pointer (some ⟨pn, 0, none⟩)), (3, .pointer (some ⟨pr, 0, none⟩)), (4, .pointer (some ⟨pg, 0, none⟩)), (5, .pointer (some ⟨ps, 0, none⟩)), (6, .pointer (some ⟨pb, 0, none⟩)), (10, .slice none 0 0), (11, .int .i64 0), (12, .bool false), (61, .bool true)] _ _ ?_ (by simp (maxSteps := 2000000) only [↓Za, ↓Zk, ↓Zs, ↓Ze, ↓Zj, ↓Zt, ↓Zg, ↓Zm, ↓Zf, ↓Zc, ↓Zb, ↓vdn, vup, Zo, Zh, Zi, Zn, Zl, List.map_cons, List.map_nil, cond_true, cond_false, aop, Zw, Zr, Zp, ev, sput, Zu, Zz, Yb, unK, Zd, Zx, Nat.reduceBEq, Nat.reduceAdd, Int.reduceBEq, Int.reduceBNe, Int.reduceLT, Zv, Ya, tup, tyf])
    clear hN3
    try clear N3
    refine Xm rfl ?_
    refine Ye ?_
    simp (maxSteps := 2000000) only [s85, ↓Za, ↓Zk, ↓Zs, ↓Ze, ↓Zj, ↓Zt, ↓Zg, ↓Zm, ↓Zf, ↓Zc, ↓Zb, ↓vdn, vup, Zo, Zh, Zi, Zn, Zl, List.map_cons, List.map_nil, cond_true, cond_false, aop, Zw, Zr, Zp, ev, sput, Zu, Zz, Yb, unK, Zd, Zx, Nat.reduceBEq, Nat.reduceAdd, Int.reduceBEq, Int.reduceBNe, Int.reduceLT, Zv, Ya, tup, tyf]
    obtain ⟨hE, hb⟩ := mono hE1
    exact none_ _ hE hb (leaf_none (hd.trans hd0))
  rw [if_neg hd0] at hr
  obtain ⟨w, rfl, hw⟩ := hr
  obtain ⟨y, hy1, hy2, hy3⟩ := leaf_some hB (by rw [hd]; exact hd0)
  have hnum : ∀ j, j < n → (((numL n (rowsI n sets B)).getD j 0 : Int) : Rat) = y j * ((d.natAbs : Int) : Rat) := fun j hj => by
    have := numL_rat hy1 hj
    rw [hd] at this; exact this
  have hnl := numL_len n (rowsI n sets B)
  have hne : numL n (rowsI n sets B) ≠ [] := fun hc => by rw [hc] at hnl; have := ge.n1; simp at hnl; omega
  have hdp : (0 : Rat) < ((d.natAbs : Int) : Rat) := by
    have : (0 : Int) < (d.natAbs : Int) := by omega
    exact Rat.intCast_pos.2 this
  simp (maxSteps := 2000000) only [s85, ↓Za, ↓Zk, ↓Zs, ↓Ze, ↓Zj, ↓Zt, ↓Zg, ↓Zm, ↓Zf, ↓Zc, ↓Zb, ↓vdn, vup, Zo, Zh, Zi, Zn, Zl, List.map_cons, List.map_nil, cond_true, cond_false, aop, Zw, Zr, Zp, ev, sput, Zu, Zz, Yb, unK, Zd, Zx, Nat.reduceBEq, Nat.reduceAdd, Int.reduceBEq, Int.reduceBNe, Int.reduceLT, Zv, Ya, tup, tyf]
  refine hN2 [(0, Zy (fr : Nat)), (1, v), (2, .pointer (some ⟨pn, 0, none⟩)), (3, .pointer (some ⟨pr, 0, none⟩)), (4, .pointer (some ⟨pg, 0, none⟩)), (5, .pointer (some ⟨ps, 0, none⟩)), (6, .pointer (some ⟨pb, 0, none⟩)), (10, w), (11, Zy (d.natAbs : Nat)), (12, .bool true)] _ _ ?_ (by simp (maxSteps := 2000000) only [↓Za, ↓Zk, ↓Zs, ↓Ze, ↓Zj, ↓Zt, ↓Zg, ↓Zm, ↓Zf, ↓Zc, ↓Zb, ↓vdn, vup, Zo, Zh, Zi, Zn, Zl, List.map_cons, List.map_nil, cond_true, cond_false, aop, Zw, Zr, Zp, ev, sput, Zu, Zz, Yb, unK, Zd, Zx, Nat.reduceBEq, Nat.reduceAdd, Int.reduceBEq, Int.reduceBNe, Int.reduceLT, Zv, Ya, tup, tyf])
  clear hN2
  try clear N2
  have hcor : ∀ x, Corner n sets B x → ∀ j, j < n → 0 ≤ y j := fun x hx j hj => by
    rw [← hy3 x hx j hj]; exact hx.ok.nn j hj
  refine Yf fun M hM => ?_
  refine Yc fun N4 hN4 => ?_
  simp (maxSteps := 2000000) only [s85, ↓Za, ↓Zk, ↓Zs, ↓Ze, ↓Zj, ↓Zt, ↓Zg, ↓Zm, ↓Zf, ↓Zc, ↓Zb, ↓vdn, vup, Zo, Zh, Zi, Zn, Zl, List.map_cons, List.map_nil, cond_true, cond_false, aop, Zw, Zr, Zp, ev, sput, Zu, Zz, Yb, unK, Zd, Zx, Nat.reduceBEq, Nat.reduceAdd, Int.reduceBEq, Int.reduceBNe, Int.reduceLT, Zv, Ya, tup, tyf, Bool.not_true, Yv, List.nil_append, List.append_nil, List.toList_toArray, List.cons_append]
  refine (min_call hw hne (by omega)).mono ?_
  rintro _ h1 ⟨rfl, rfl⟩
  by_cases hneg : minT (numL n (rowsI n sets B)) (numL n (rowsI n sets B)).length < 0
  · simp (maxSteps := 2000000) only [s85, ↓Za, ↓Zk, ↓Zs, ↓Ze, ↓Zj, ↓Zt, ↓Zg, ↓Zm, ↓Zf, ↓Zc, ↓Zb, ↓vdn, vup, Zo, Zh, Zi, Zn, Zl, List.map_cons, List.map_nil, cond_true, cond_false, aop, Zw, Zr, Zp, ev, sput, Zu, Zz, Yb, unK, Zd, Zx, Nat.reduceBEq, Nat.reduceAdd, Int.reduceBEq, Int.reduceBNe, Int.reduceLT, Zv, Ya, tup, tyf, hneg]
    refine hN4 [(0, Zy (fr : Nat)), (1, v), (2, .pointer (some ⟨pn, 0, none⟩)), (3, .pointer (some ⟨pr, 0, none⟩)), (4, .pointer (some ⟨pg, 0, none⟩)), (5, .pointer (some ⟨ps, 0, none⟩)), (6, .pointer (some ⟨pb, 0, none⟩)), (10, w), (11, Zy (d.natAbs : Nat)), (12, .bool true), (61, .bool true)] _ _ ?_ (by simp (maxSteps := 2000000) only [↓Za, ↓Zk, ↓Zs, ↓Ze, ↓Zj, ↓Zt, ↓Zg, ↓Zm, ↓Zf, ↓Zc, ↓Zb, ↓vdn, vup, Zo, Zh, Zi, Zn, Zl, List.map_cons, List.map_nil, cond_true, cond_false, aop, Zw, Zr, Zp, ev, sput, Zu, Zz, Yb, unK, Zd, Zx, Nat.reduceBEq, Nat.reduceAdd, Int.reduceBEq, Int.reduceBNe, Int.reduceLT, Zv, Ya, tup, tyf])
    clear hN4
    try clear N4
    refine Xm rfl ?_
    refine Ye ?_
    simp (maxSteps := 2000000) only [s85, ↓Za, ↓Zk, ↓Zs, ↓Ze, ↓Zj, ↓Zt, ↓Zg, ↓Zm, ↓Zf, ↓Zc, ↓Zb, ↓vdn, vup, Zo, Zh, Zi, Zn, Zl, List.map_cons, List.map_nil, cond_true, cond_false, aop, Zw, Zr, Zp, ev, sput, Zu, Zz, Yb, unK, Zd, Zx, Nat.reduceBEq, Nat.reduceAdd, Int.reduceBEq, Int.reduceBNe, Int.reduceLT, Zv, Ya, tup, tyf]
    obtain ⟨hE, hb⟩ := mono hE1
    refine none_ _ hE hb fun x hx => ?_
    obtain ⟨z, hz, hz0⟩ := (minT_neg hne).1 hneg
    obtain ⟨j, hj, rfl⟩ := List.mem_iff_getElem.1 hz
    have h2 := hnum j (by omega)
    rw [List.getD, List.getElem?_eq_getElem hj, Option.getD_some] at h2
    have h3 := Rat.mul_nonneg (hcor x hx j (by omega)) (Rat.le_of_lt hdp)
    rw [← h2] at h3
    have := Rat.intCast_nonneg.1 h3
    omega
  simp (maxSteps := 2000000) only [s85, ↓Za, ↓Zk, ↓Zs, ↓Ze, ↓Zj, ↓Zt, ↓Zg, ↓Zm, ↓Zf, ↓Zc, ↓Zb, ↓vdn, vup, Zo, Zh, Zi, Zn, Zl, List.map_cons, List.map_nil, cond_true, cond_false, aop, Zw, Zr, Zp, ev, sput, Zu, Zz, Yb, unK, Zd, Zx, Nat.reduceBEq, Nat.reduceAdd, Int.reduceBEq, Int.reduceBNe, Int.reduceLT, Zv, Ya, tup, tyf, hneg]
  refine hN4 [(0, Zy (fr : Nat)), (1, v), (2, .pointer (some ⟨pn, 0, none⟩)), (3, .pointer (some ⟨pr, 0, none⟩)), (4, .pointer (some ⟨pg, 0, none⟩)), (5, .pointer (some ⟨ps, 0, none⟩)), (6, .pointer (some ⟨pb, 0, none⟩)), (10, w), (11, Zy (d.natAbs : Nat)), (12, .bool true), (61, .bool false)] _ _ ?_ (by simp (maxSteps := 2000000) only [↓Za, ↓Zk, ↓Zs, ↓Ze, ↓Zj, ↓Zt, ↓Zg, ↓Zm, ↓Zf, ↓Zc, ↓Zb, ↓vdn, vup, Zo, Zh, Zi, Zn, Zl, List.map_cons, List.map_nil, cond_true, cond_false, aop, Zw, Zr, Zp, ev, sput, Zu, Zz, Yb, unK, Zd, Zx, Nat.reduceBEq, Nat.reduceAdd, Int.reduceBEq, Int.reduceBNe, Int.reduceLT, Zv, Ya, tup, tyf])
  clear hN4
  try clear N4
  refine Yy rfl ?_
  refine Ye ?_
  simp (maxSteps := 2000000) only [s85, ↓Za, ↓Zk, ↓Zs, ↓Ze, ↓Zj, ↓Zt, ↓Zg, ↓Zm, ↓Zf, ↓Zc, ↓Zb, ↓vdn, vup, Zo, Zh, Zi, Zn, Zl, List.map_cons, List.map_nil, cond_true, cond_false, aop, Zw, Zr, Zp, ev, sput, Zu, Zz, Yb, unK, Zd, Zx, Nat.reduceBEq, Nat.reduceAdd, Int.reduceBEq, Int.reduceBNe, Int.reduceLT, Zv, Ya, tup, tyf]
  refine hM [(0, Zy (fr : Nat)), (1, v), (2, .pointer (some ⟨pn, 0, none⟩)), (3, .pointer (some ⟨pr, 0, none⟩)), (4, .pointer (some ⟨pg, 0, none⟩)), (5, .pointer (some ⟨ps, 0, none⟩)), (6, .pointer (some ⟨pb, 0, none⟩)), (10, w), (11, Zy (d.natAbs : Nat)), (12, .bool true)] _ _ ?_ (by simp (maxSteps := 2000000) only [↓Za, ↓Zk, ↓Zs, ↓Ze, ↓Zj, ↓Zt, ↓Zg, ↓Zm, ↓Zf, ↓Zc, ↓Zb, ↓vdn, vup, Zo, Zh, Zi, Zn, Zl, List.map_cons, List.map_nil, cond_true, cond_false, aop, Zw, Zr, Zp, ev, sput, Zu, Zz, Yb, unK, Zd, Zx, Nat.reduceBEq, Nat.reduceAdd, Int.reduceBEq, Int.reduceBNe, Int.reduceLT, Zv, Ya, tup, tyf])
  clear hM
  try clear M
  obtain ⟨N, hN⟩ : ∃ N, numL n (rowsI n sets B) = N := ⟨_, rfl⟩
  rw [hN] at hw hnl hne hneg
  have hNr : ∀ j, j < n → ((N.getD j 0 : Int) : Rat) = y j * ((d.natAbs : Int) : Rat) := hN ▸ hnum
  have hN0 : ∀ j, j < n → 0 ≤ N.getD j 0 := fun j hj => Classical.byContradiction fun hc => hneg ((minT_neg hne).2 ⟨N.getD j 0, by rw [List.getD, List.getElem?_eq_getElem (by omega)]; exact List.getElem_mem _, by omega⟩)
  have hNb : ∀ j, j < n → (N.getD j 0).natAbs ≤ 720 := fun j hj => by
    have h2 : (pdet n ((rowsI n sets B).map (putR n j))).natAbs ≤ 720 := Nat.le_trans (pdet_abs n _ (by rw [List.length_map, hlen]) fun r hr y hy => by
      obtain ⟨r', hr', rfl⟩ := List.mem_map.1 hr
      rw [putR] at hy
      rcases List.mem_or_eq_of_mem_set hy with h | h
      · exact (hr01 r' hr').2 y h
      · have e1 := (hr01 r' hr').1
        rw [h, List.getD, List.getElem?_eq_getElem (by omega)]; exact (hr01 r' hr').2 _ (List.getElem_mem _)) (fact_le h6)
    rw [← hN, numL_get hj]; split <;> omega
  have hSb : ∀ k, k ≤ n → (pdet.isum (fun j => N.getD j 0) k).natAbs ≤ k * 720 := fun k hk => isum_abs fun j hj => hNb j (by omega)
  refine Yc fun N5 hN5 => ?_
  simp (maxSteps := 2000000) only [s85, ↓Za, ↓Zk, ↓Zs, ↓Ze, ↓Zj, ↓Zt, ↓Zg, ↓Zm, ↓Zf, ↓Zc, ↓Zb, ↓vdn, vup, Zo, Zh, Zi, Zn, Zl, List.map_cons, List.map_nil, cond_true, cond_false, aop, Zw, Zr, Zp, ev, sput, Zu, Zz, Yb, unK, Zd, Zx, Nat.reduceBEq, Nat.reduceAdd, Int.reduceBEq, Int.reduceBNe, Int.reduceLT, Zv, Ya, tup, tyf]
  refine hN5 [(0, Zy (fr : Nat)), (1, v), (2, .pointer (some ⟨pn, 0, none⟩)), (3, .pointer (some ⟨pr, 0, none⟩)), (4, .pointer (some ⟨pg, 0, none⟩)), (5, .pointer (some ⟨ps, 0, none⟩)), (6, .pointer (some ⟨pb, 0, none⟩)), (10, w), (11, Zy (d.natAbs : Nat)), (12, .bool true), (13, .int .i64 0)] _ _ ?_ (by simp (maxSteps := 2000000) only [↓Za, ↓Zk, ↓Zs, ↓Ze, ↓Zj, ↓Zt, ↓Zg, ↓Zm, ↓Zf, ↓Zc, ↓Zb, ↓vdn, vup, Zo, Zh, Zi, Zn, Zl, List.map_cons, List.map_nil, cond_true, cond_false, aop, Zw, Zr, Zp, ev, sput, Zu, Zz, Yb, unK, Zd, Zx, Nat.reduceBEq, Nat.reduceAdd, Int.reduceBEq, Int.reduceBNe, Int.reduceLT, Zv, Ya, tup, tyf])
  clear hN5
  try clear N5
  refine Yf fun Z hZ => ?_
  refine Yc fun N6 hN6 => ?_
  simp (maxSteps := 2000000) only [s85, ↓Za, ↓Zk, ↓Zs, ↓Ze, ↓Zj, ↓Zt, ↓Zg, ↓Zm, ↓Zf, ↓Zc, ↓Zb, ↓vdn, vup, Zo, Zh, Zi, Zn, Zl, List.map_cons, List.map_nil, cond_true, cond_false, aop, Zw, Zr, Zp, ev, sput, Zu, Zz, Yb, unK, Zd, Zx, Nat.reduceBEq, Nat.reduceAdd, Int.reduceBEq, Int.reduceBNe, Int.reduceLT, Zv, Ya, tup, tyf, hw.len, hnl]
  refine hN6 [(0, Zy (fr : Nat)), (1, v), (2, .pointer (some ⟨pn, 0, none⟩)), (3, .pointer (some ⟨pr, 0, none⟩)), (4, .pointer (some ⟨pg, 0, none⟩)), (5, .pointer (some ⟨ps, 0, none⟩)), (6, .pointer (some ⟨pb, 0, none⟩)), (10, w), (11, Zy (d.natAbs : Nat)), (12, .bool true), (13, .int .i64 0), (62, w), (63, Zy (n : Nat)), (64, .int .i64 0)] _ _ ?_ (by simp (maxSteps := 2000000) only [↓Za, ↓Zk, ↓Zs, ↓Ze, ↓Zj, ↓Zt, ↓Zg, ↓Zm, ↓Zf, ↓Zc, ↓Zb, ↓vdn, vup, Zo, Zh, Zi, Zn, Zl, List.map_cons, List.map_nil, cond_true, cond_false, aop, Zw, Zr, Zp, ev, sput, Zu, Zz, Yb, unK, Zd, Zx, Nat.reduceBEq, Nat.reduceAdd, Int.reduceBEq, Int.reduceBNe, Int.reduceLT, Zv, Ya, tup, tyf])
  clear hN6
  try clear N6
  refine Ym ?_
  refine Yg fun Q hQ => ?_
  refine Xu (γ := Nat) (fun i => i ≤ n) (fun i => ([(0, Zy (fr : Nat)), (1, v), (2, .pointer (some ⟨pn, 0, none⟩)), (3, .pointer (some ⟨pr, 0, none⟩)), (4, .pointer (some ⟨pg, 0, none⟩)), (5, .pointer (some ⟨ps, 0, none⟩)), (6, .pointer (some ⟨pb, 0, none⟩)), (10, w), (11, Zy (d.natAbs : Nat)), (12, .bool true), (13, Zy (pdet.isum (fun j => N.getD j 0) i)), (62, w), (63, Zy (n : Nat)), (64, Zy (i : Nat))], h1)) (fun i => n - i) 0 (Nat.zero_le _) (by simp (maxSteps := 2000000) only [↓Za, ↓Zk, ↓Zs, ↓Ze, ↓Zj, ↓Zt, ↓Zg, ↓Zm, ↓Zf, ↓Zc, ↓Zb, ↓vdn, vup, Zo, Zh, Zi, Zn, Zl, List.map_cons, List.map_nil, cond_true, cond_false, aop, Zw, Zr, Zp, ev, sput, Zu, Zz, Yb, unK, Zd, Zx, Nat.reduceBEq, Nat.reduceAdd, Int.reduceBEq, Int.reduceBNe, Int.reduceLT, Zv, Ya, tup, tyf, Int.natCast_zero, show pdet.isum (fun j => N.getD j 0) 0 = 0 from rfl]) rfl ?_
  rintro i hi
  refine Yg fun Q2 hQ2 => ?_
  simp only [l85_1]
  by_cases hin : (i : Int) < n
  · have hi' : i < n := by omega
    have hiN : i < N.length := by omega
    have hadd : addV .i64 (pdet.isum (fun j => N.getD j 0) i) (N.getD i 0) = pdet.isum (fun j => N.getD j 0) (i + 1) := by
      have h2 := hSb i hi
      have h3 := hNb i hi'
      have h4 : i * 720 ≤ 4320 := by omega
      exact Vm (by omega) (by omega)
    refine Yc fun N7 hN7 => ?_
    simp (maxSteps := 2000000) only [s85, ↓Za, ↓Zk, ↓Zs, ↓Ze, ↓Zj, ↓Zt, ↓Zg, ↓Zm, ↓Zf, ↓Zc, ↓Zb, ↓vdn, vup, Zo, Zh, Zi, Zn, Zl, List.map_cons, List.map_nil, cond_true, cond_false, aop, Zw, Zr, Zp, ev, sput, Zu, Zz, Yb, unK, Zd, Zx, Nat.reduceBEq, Nat.reduceAdd, Int.reduceBEq, Int.reduceBNe, Int.reduceLT, Zv, Ya, tup, tyf, hin]
    refine hN7 [(0, Zy (fr : Nat)), (1, v), (2, .pointer (some ⟨pn, 0, none⟩)), (3, .pointer (some ⟨pr, 0, none⟩)), (4, .pointer (some ⟨pg, 0, none⟩)), (5, .pointer (some ⟨ps, 0, none⟩)), (6, .pointer (some ⟨pb, 0, none⟩)), (10, w), (11, Zy (d.natAbs : Nat)), (12, .bool true), (13, Zy (pdet.isum (fun j => N.getD j 0) i)), (62, w), (63, Zy (n : Nat)), (64, Zy (i : Nat)), (65, .bool true)] _ _ ?_ (by simp (maxSteps := 2000000) only [↓Za, ↓Zk, ↓Zs, ↓Ze, ↓Zj, ↓Zt, ↓Zg, ↓Zm, ↓Zf, ↓Zc, ↓Zb, ↓vdn, vup, Zo, Zh, Zi, Zn, Zl, List.map_cons, List.map_nil, cond_true, cond_false, aop, Zw, Zr, Zp, ev, sput, Zu, Zz, Yb, unK, Zd, Zx, Nat.reduceBEq, Nat.reduceAdd, Int.reduceBEq, Int.reduceBNe, Int.reduceLT, Zv, Ya, tup, tyf])
    clear hN7
    try clear N7
    refine Yc fun N8 hN8 => ?_
    simp (maxSteps := 2000000) only [s85, ↓Za, ↓Zk, ↓Zs, ↓Ze, ↓Zj, ↓Zt, ↓Zg, ↓Zm, ↓Zf, ↓Zc, ↓Zb, ↓vdn, vup, Zo, Zh, Zi, Zn, Zl, List.map_cons, List.map_nil, cond_true, cond_false, aop, Zw, Zr, Zp, ev, sput, Zu, Zz, Yb, unK, Zd, Zx, Nat.reduceBEq, Nat.reduceAdd, Int.reduceBEq, Int.reduceBNe, Int.reduceLT, Zv, Ya, tup, tyf]
    refine hN8 [(0, Zy (fr : Nat)), (1, v), (2, .pointer (some ⟨pn, 0, none⟩)), (3, .pointer (some ⟨pr, 0, none⟩)), (4, .pointer (some ⟨pg, 0, none⟩)), (5, .pointer (some ⟨ps, 0, none⟩)), (6, .pointer (some ⟨pb, 0, none⟩)), (10, w), (11, Zy (d.natAbs : Nat)), (12, .bool true), (13, Zy (pdet.isum (fun j => N.getD j 0) i)), (62, w), (63, Zy (n : Nat)), (64, Zy (i : Nat))] _ _ ?_ (by simp (maxSteps := 2000000) only [↓Za, ↓Zk, ↓Zs, ↓Ze, ↓Zj, ↓Zt, ↓Zg, ↓Zm, ↓Zf, ↓Zc, ↓Zb, ↓vdn, vup, Zo, Zh, Zi, Zn, Zl, List.map_cons, List.map_nil, cond_true, cond_false, aop, Zw, Zr, Zp, ev, sput, Zu, Zz, Yb, unK, Zd, Zx, Nat.reduceBEq, Nat.reduceAdd, Int.reduceBEq, Int.reduceBNe, Int.reduceLT, Zv, Ya, tup, tyf])
    clear hN8
    try clear N8
    refine Yf fun B hB => ?_
    refine Ym ?_
    refine Yc fun N9 hN9 => ?_
    simp (maxSteps := 2000000) only [s85, ↓Za, ↓Zk, ↓Zs, ↓Ze, ↓Zj, ↓Zt, ↓Zg, ↓Zm, ↓Zf, ↓Zc, ↓Zb, ↓vdn, vup, Zo, Zh, Zi, Zn, Zl, List.map_cons, List.map_nil, cond_true, cond_false, aop, Zw, Zr, Zp, ev, sput, Zu, Zz, Yb, unK, Zd, Zx, Nat.reduceBEq, Nat.reduceAdd, Int.reduceBEq, Int.reduceBNe, Int.reduceLT, Zv, Ya, tup, tyf, hw.idx We Xk hiN, hw.load Xj hiN]
    refine hN9 [(0, Zy (fr : Nat)), (1, v), (2, .pointer (some ⟨pn, 0, none⟩)), (3, .pointer (some ⟨pr, 0, none⟩)), (4, .pointer (some ⟨pg, 0, none⟩)), (5, .pointer (some ⟨ps, 0, none⟩)), (6, .pointer (some ⟨pb, 0, none⟩)), (10, w), (11, Zy (d.natAbs : Nat)), (12, .bool true), (13, Zy (pdet.isum (fun j => N.getD j 0) i)), (15, Zy (N.getD i 0)), (62, w), (63, Zy (n : Nat)), (64, Zy (i : Nat))] _ _ ?_ (by simp (maxSteps := 2000000) only [↓Za, ↓Zk, ↓Zs, ↓Ze, ↓Zj, ↓Zt, ↓Zg, ↓Zm, ↓Zf, ↓Zc, ↓Zb, ↓vdn, vup, Zo, Zh, Zi, Zn, Zl, List.map_cons, List.map_nil, cond_true, cond_false, aop, Zw, Zr, Zp, ev, sput, Zu, Zz, Yb, unK, Zd, Zx, Nat.reduceBEq, Nat.reduceAdd, Int.reduceBEq, Int.reduceBNe, Int.reduceLT, Zv, Ya, tup, tyf])
    clear hN9
    try clear N9
    refine Ye ?_
    simp (maxSteps := 2000000) only [s85, ↓Za, ↓Zk, ↓Zs, ↓Ze, ↓Zj, ↓Zt, ↓Zg, ↓Zm, ↓Zf, ↓Zc, ↓Zb, ↓vdn, vup, Zo, Zh, Zi, Zn, Zl, List.map_cons, List.map_nil, cond_true, cond_false, aop, Zw, Zr, Zp, ev, sput, Zu, Zz, Yb, unK, Zd, Zx, Nat.reduceBEq, Nat.reduceAdd, Int.reduceBEq, Int.reduceBNe, Int.reduceLT, Zv, Ya, tup, tyf, hadd]
    refine hB [(0, Zy (fr : Nat)), (1, v), (2, .pointer (some ⟨pn, 0, none⟩)), (3, .pointer (some ⟨pr, 0, none⟩)), (4, .pointer (some ⟨pg, 0, none⟩)), (5, .pointer (some ⟨ps, 0, none⟩)), (6, .pointer (some ⟨pb, 0, none⟩)), (10, w), (11, Zy (d.natAbs : Nat)), (12, .bool true), (13, Zy (pdet.isum (fun j => N.getD j 0) (i + 1))), (62, w), (63, Zy (n : Nat)), (64, Zy (i : Nat))] _ _ ?_ (by simp (maxSteps := 2000000) only [↓Za, ↓Zk, ↓Zs, ↓Ze, ↓Zj, ↓Zt, ↓Zg, ↓Zm, ↓Zf, ↓Zc, ↓Zb, ↓vdn, vup, Zo, Zh, Zi, Zn, Zl, List.map_cons, List.map_nil, cond_true, cond_false, aop, Zw, Zr, Zp, ev, sput, Zu, Zz, Yb, unK, Zd, Zx, Nat.reduceBEq, Nat.reduceAdd, Int.reduceBEq, Int.reduceBNe, Int.reduceLT, Zv, Ya, tup, tyf])
    clear hB
    try clear B
    refine Ye ?_
    simp (maxSteps := 2000000) only [s85, ↓Za, ↓Zk, ↓Zs, ↓Ze, ↓Zj, ↓Zt, ↓Zg, ↓Zm, ↓Zf, ↓Zc, ↓Zb, ↓vdn, vup, Zo, Zh, Zi, Zn, Zl, List.map_cons, List.map_nil, cond_true, cond_false, aop, Zw, Zr, Zp, ev, sput, Zu, Zz, Yb, unK, Zd, Zx, Nat.reduceBEq, Nat.reduceAdd, Int.reduceBEq, Int.reduceBNe, Int.reduceLT, Zv, Ya, tup, tyf, add1 (show i < 9223372036854775807 by omega)]
    exact hQ2 _ _ _ ⟨i + 1, hi', by omega, by simp (maxSteps := 2000000) only [↓Za, ↓Zk, ↓Zs, ↓Ze, ↓Zj, ↓Zt, ↓Zg, ↓Zm, ↓Zf, ↓Zc, ↓Zb, ↓vdn, vup, Zo, Zh, Zi, Zn, Zl, List.map_cons, List.map_nil, cond_true, cond_false, aop, Zw, Zr, Zp, ev, sput, Zu, Zz, Yb, unK, Zd, Zx, Nat.reduceBEq, Nat.reduceAdd, Int.reduceBEq, Int.reduceBNe, Int.reduceLT, Zv, Ya, tup, tyf], rfl⟩
  obtain rfl : n = i := by omega
  refine Yc fun N10 hN10 => ?_
  simp (maxSteps := 2000000) only [s85, ↓Za, ↓Zk, ↓Zs, ↓Ze, ↓Zj, ↓Zt, ↓Zg, ↓Zm, ↓Zf, ↓Zc, ↓Zb, ↓vdn, vup, Zo, Zh, Zi, Zn, Zl, List.map_cons, List.map_nil, cond_true, cond_false, aop, Zw, Zr, Zp, ev, sput, Zu, Zz, Yb, unK, Zd, Zx, Nat.reduceBEq, Nat.reduceAdd, Int.reduceBEq, Int.reduceBNe, Int.reduceLT, Zv, Ya, tup, tyf, hin]
  refine hN10 [(0, Zy (fr : Nat)), (1, v), (2, .pointer (some ⟨pn, 0, none⟩)), (3, .pointer (some ⟨pr, 0, none⟩)), (4, .pointer (some ⟨pg, 0, none⟩)), (5, .pointer (some ⟨ps, 0, none⟩)), (6, .pointer (some ⟨pb, 0, none⟩)), (10, w), (11, Zy (d.natAbs : Nat)), (12, .bool true), (13, Zy (pdet.isum (fun j => N.getD j 0) n)), (62, w), (63, Zy (n : Nat)), (64, Zy (n : Nat)), (65, .bool false)] _ _ ?_ (by simp (maxSteps := 2000000) only [↓Za, ↓Zk, ↓Zs, ↓Ze, ↓Zj, ↓Zt, ↓Zg, ↓Zm, ↓Zf, ↓Zc, ↓Zb, ↓vdn, vup, Zo, Zh, Zi, Zn, Zl, List.map_cons, List.map_nil, cond_true, cond_false, aop, Zw, Zr, Zp, ev, sput, Zu, Zz, Yb, unK, Zd, Zx, Nat.reduceBEq, Nat.reduceAdd, Int.reduceBEq, Int.reduceBNe, Int.reduceLT, Zv, Ya, tup, tyf])
  clear hN10
  try clear N10
  refine Yc fun N11 hN11 => ?_
  simp (maxSteps := 2000000) only [s85, ↓Za, ↓Zk, ↓Zs, ↓Ze, ↓Zj, ↓Zt, ↓Zg, ↓Zm, ↓Zf, ↓Zc, ↓Zb, ↓vdn, vup, Zo, Zh, Zi, Zn, Zl, List.map_cons, List.map_nil, cond_true, cond_false, aop, Zw, Zr, Zp, ev, sput, Zu, Zz, Yb, unK, Zd, Zx, Nat.reduceBEq, Nat.reduceAdd, Int.reduceBEq, Int.reduceBNe, Int.reduceLT, Zv, Ya, tup, tyf]
  refine hQ2 _ _ _ (hQ _ _ _ ?_)
  simp (maxSteps := 2000000) only [s85, ↓Za, ↓Zk, ↓Zs, ↓Ze, ↓Zj, ↓Zt, ↓Zg, ↓Zm, ↓Zf, ↓Zc, ↓Zb, ↓vdn, vup, Zo, Zh, Zi, Zn, Zl, List.map_cons, List.map_nil, cond_true, cond_false, aop, Zw, Zr, Zp, ev, sput, Zu, Zz, Yb, unK, Zd, Zx, Nat.reduceBEq, Nat.reduceAdd, Int.reduceBEq, Int.reduceBNe, Int.reduceLT, Zv, Ya, tup, tyf, if_true]
  obtain ⟨S, hS⟩ : ∃ S, pdet.isum (fun j => N.getD j 0) n = S := ⟨_, rfl⟩
  have hSr : ((S : Int) : Rat) = sumTo y n * ((d.natAbs : Int) : Rat) := by
    rw [← hS, isum_cast, Rat.mul_comm, ← sumTo_mul]
    exact sumTo_congr fun j hj => by rw [hNr j hj, Rat.mul_comm]
  rw [hS]
  refine hZ [(0, Zy (fr : Nat)), (1, v), (2, .pointer (some ⟨pn, 0, none⟩)), (3, .pointer (some ⟨pr, 0, none⟩)), (4, .pointer (some ⟨pg, 0, none⟩)), (5, .pointer (some ⟨ps, 0, none⟩)), (6, .pointer (some ⟨pb, 0, none⟩)), (10, w), (11, Zy (d.natAbs : Nat)), (12, .bool true), (13, Zy S)] _ _ ?_ (by simp (maxSteps := 2000000) only [↓Za, ↓Zk, ↓Zs, ↓Ze, ↓Zj, ↓Zt, ↓Zg, ↓Zm, ↓Zf, ↓Zc, ↓Zb, ↓vdn, vup, Zo, Zh, Zi, Zn, Zl, List.map_cons, List.map_nil, cond_true, cond_false, aop, Zw, Zr, Zp, ev, sput, Zu, Zz, Yb, unK, Zd, Zx, Nat.reduceBEq, Nat.reduceAdd, Int.reduceBEq, Int.reduceBNe, Int.reduceLT, Zv, Ya, tup, tyf])
  clear hZ
  try clear Z
  clear hQ hQ2
  have hk1 : KG h0 pb h1 := hk.trans (mono hE1).1
  have hsv := ge.st h1 hk1
  have hks1 := hk1.at_ ge.sb ge.fs
  have hsl : (sets.map fun s => ((s : Nat) : Int)).length = sets.length := List.length_map ..
  have hsg : ∀ k, k < sets.length → (sets.map fun s => ((s : Nat) : Int)).getD k 0 = ((sets.getD k 0 : Nat) : Int) := fun k hk => by
    rw [List.getD, List.getElem?_map, List.getD, List.getElem?_eq_getElem hk]; rfl
  refine Yf fun Z hZ => ?_
  refine Yc fun N12 hN12 => ?_
  simp (maxSteps := 2000000) only [s85, ↓Za, ↓Zk, ↓Zs, ↓Ze, ↓Zj, ↓Zt, ↓Zg, ↓Zm, ↓Zf, ↓Zc, ↓Zb, ↓vdn, vup, Zo, Zh, Zi, Zn, Zl, List.map_cons, List.map_nil, cond_true, cond_false, aop, Zw, Zr, Zp, ev, sput, Zu, Zz, Yb, unK, Zd, Zx, Nat.reduceBEq, Nat.reduceAdd, Int.reduceBEq, Int.reduceBNe, Int.reduceLT, Zv, Ya, tup, tyf, Wz hks1 shp_22, hsv.len, hsl]
  refine hN12 [(0, Zy (fr : Nat)), (1, v), (2, .pointer (some ⟨pn, 0, none⟩)), (3, .pointer (some ⟨pr, 0, none⟩)), (4, .pointer (some ⟨pg, 0, none⟩)), (5, .pointer (some ⟨ps, 0, none⟩)), (6, .pointer (some ⟨pb, 0, none⟩)), (10, w), (11, Zy (d.natAbs : Nat)), (12, .bool true), (13, Zy S), (72, sv), (73, Zy sets.length), (74, .int .i64 0)] _ _ ?_ (by simp (maxSteps := 2000000) only [↓Za, ↓Zk, ↓Zs, ↓Ze, ↓Zj, ↓Zt, ↓Zg, ↓Zm, ↓Zf, ↓Zc, ↓Zb, ↓vdn, vup, Zo, Zh, Zi, Zn, Zl, List.map_cons, List.map_nil, cond_true, cond_false, aop, Zw, Zr, Zp, ev, sput, Zu, Zz, Yb, unK, Zd, Zx, Nat.reduceBEq, Nat.reduceAdd, Int.reduceBEq, Int.reduceBNe, Int.reduceLT, Zv, Ya, tup, tyf])
  clear hN12
  try clear N12
  refine Ym ?_
  refine Yg fun Q hQ => ?_
  refine Xu (γ := Nat) (fun k => k ≤ sets.length ∧ ∀ j, j < k → dot (bitQ (sets.getD j 0)) y n ≤ 1) (fun k => ([(0, Zy (fr : Nat)), (1, v), (2, .pointer (some ⟨pn, 0, none⟩)), (3, .pointer (some ⟨pr, 0, none⟩)), (4, .pointer (some ⟨pg, 0, none⟩)), (5, .pointer (some ⟨ps, 0, none⟩)), (6, .pointer (some ⟨pb, 0, none⟩)), (10, w), (11, Zy (d.natAbs : Nat)), (12, .bool true), (13, Zy S), (72, sv), (73, Zy sets.length), (74, Zy (k : Nat))], h1)) (fun k => sets.length - k) 0 ⟨Nat.zero_le _, fun j hj => absurd hj (Nat.not_lt_zero j)⟩ (by simp (maxSteps := 2000000) only [↓Za, ↓Zk, ↓Zs, ↓Ze, ↓Zj, ↓Zt, ↓Zg, ↓Zm, ↓Zf, ↓Zc, ↓Zb, ↓vdn, vup, Zo, Zh, Zi, Zn, Zl, List.map_cons, List.map_nil, cond_true, cond_false, aop, Zw, Zr, Zp, ev, sput, Zu, Zz, Yb, unK, Zd, Zx, Nat.reduceBEq, Nat.reduceAdd, Int.reduceBEq, Int.reduceBNe, Int.reduceLT, Zv, Ya, tup, tyf, Int.natCast_zero]) rfl ?_
  rintro k ⟨hkl, hok⟩
  refine Yg fun Q2 hQ2 => ?_
  simp only [l85_3]
  have hlS := ge.l
  by_cases hkin : (k : Int) < sets.length
  · have hk' : k < sets.length := by omega
    have hkS : k < (sets.map fun s => ((s : Nat) : Int)).length := by omega
    obtain ⟨s, hs⟩ : ∃ s, sets.getD k 0 = s := ⟨_, rfl⟩
    have hsm : s ∈ sets := hs ▸ getD_in hk'
    have hs2 : s < 64 := Nat.lt_of_lt_of_le (ge.lt s hsm) (show 2 ^ n ≤ 2 ^ 6 from Nat.pow_le_pow_right (by decide) h6)
    obtain ⟨F, hF⟩ : ∃ F : Nat → Int, F = fun j => (if s.testBit j then 1 else 0) * N.getD j 0 := ⟨_, rfl⟩
    have hFb : ∀ j, j < n → (F j).natAbs ≤ 720 := fun j hj => by
      rw [hF]
      have := hNb j hj
      simp only
      split
      · rw [Int.one_mul]; exact this
      · simp
    have hFs : ∀ i, i ≤ n → (pdet.isum F i).natAbs ≤ i * 720 := fun i hi => isum_abs fun j hj => hFb j (by omega)
    have hg := hsg k hk'
    rw [hs] at hg
    refine Yc fun N13 hN13 => ?_
    simp (maxSteps := 2000000) only [s85, ↓Za, ↓Zk, ↓Zs, ↓Ze, ↓Zj, ↓Zt, ↓Zg, ↓Zm, ↓Zf, ↓Zc, ↓Zb, ↓vdn, vup, Zo, Zh, Zi, Zn, Zl, List.map_cons, List.map_nil, cond_true, cond_false, aop, Zw, Zr, Zp, ev, sput, Zu, Zz, Yb, unK, Zd, Zx, Nat.reduceBEq, Nat.reduceAdd, Int.reduceBEq, Int.reduceBNe, Int.reduceLT, Zv, Ya, tup, tyf, hkin]
    refine hN13 [(0, Zy (fr : Nat)), (1, v), (2, .pointer (some ⟨pn, 0, none⟩)), (3, .pointer (some ⟨pr, 0, none⟩)), (4, .pointer (some ⟨pg, 0, none⟩)), (5, .pointer (some ⟨ps, 0, none⟩)), (6, .pointer (some ⟨pb, 0, none⟩)), (10, w), (11, Zy (d.natAbs : Nat)), (12, .bool true), (13, Zy S), (72, sv), (73, Zy sets.length), (74, Zy (k : Nat)), (75, .bool true)] _ _ ?_ (by simp (maxSteps := 2000000) only [↓Za, ↓Zk, ↓Zs, ↓Ze, ↓Zj, ↓Zt, ↓Zg, ↓Zm, ↓Zf, ↓Zc, ↓Zb, ↓vdn, vup, Zo, Zh, Zi, Zn, Zl, List.map_cons, List.map_nil, cond_true, cond_false, aop, Zw, Zr, Zp, ev, sput, Zu, Zz, Yb, unK, Zd, Zx, Nat.reduceBEq, Nat.reduceAdd, Int.reduceBEq, Int.reduceBNe, Int.reduceLT, Zv, Ya, tup, tyf])
    clear hN13
    try clear N13
    refine Yc fun N14 hN14 => ?_
    simp (maxSteps := 2000000) only [s85, ↓Za, ↓Zk, ↓Zs, ↓Ze, ↓Zj, ↓Zt, ↓Zg, ↓Zm, ↓Zf, ↓Zc, ↓Zb, ↓vdn, vup, Zo, Zh, Zi, Zn, Zl, List.map_cons, List.map_nil, cond_true, cond_false, aop, Zw, Zr, Zp, ev, sput, Zu, Zz, Yb, unK, Zd, Zx, Nat.reduceBEq, Nat.reduceAdd, Int.reduceBEq, Int.reduceBNe, Int.reduceLT, Zv, Ya, tup, tyf]
    refine hN14 [(0, Zy (fr : Nat)), (1, v), (2, .pointer (some ⟨pn, 0, none⟩)), (3, .pointer (some ⟨pr, 0, none⟩)), (4, .pointer (some ⟨pg, 0, none⟩)), (5, .pointer (some ⟨ps, 0, none⟩)), (6, .pointer (some ⟨pb, 0, none⟩)), (10, w), (11, Zy (d.natAbs : Nat)), (12, .bool true), (13, Zy S), (72, sv), (73, Zy sets.length), (74, Zy (k : Nat))] _ _ ?_ (by simp (maxSteps := 2000000) only [↓Za, ↓Zk, ↓Zs, ↓Ze, ↓Zj, ↓Zt, ↓Zg, ↓Zm, ↓Zf, ↓Zc, ↓Zb, ↓vdn, vup, Zo, Zh, Zi, Zn, Zl, List.map_cons, List.map_nil, cond_true, cond_false, aop, Zw, Zr, Zp, ev, sput, Zu, Zz, Yb, unK, Zd, Zx, Nat.reduceBEq, Nat.reduceAdd, Int.reduceBEq, Int.reduceBNe, Int.reduceLT, Zv, Ya, tup, tyf])
    clear hN14
    try clear N14
    refine Yf fun B hB => ?_
    refine Ym ?_
    refine Yc fun N15 hN15 => ?_
    simp (maxSteps := 2000000) only [s85, ↓Za, ↓Zk, ↓Zs, ↓Ze, ↓Zj, ↓Zt, ↓Zg, ↓Zm, ↓Zf, ↓Zc, ↓Zb, ↓vdn, vup, Zo, Zh, Zi, Zn, Zl, List.map_cons, List.map_nil, cond_true, cond_false, aop, Zw, Zr, Zp, ev, sput, Zu, Zz, Yb, unK, Zd, Zx, Nat.reduceBEq, Nat.reduceAdd, Int.reduceBEq, Int.reduceBNe, Int.reduceLT, Zv, Ya, tup, tyf, hsv.idx We Xk hkS, hsv.load Xj hkS, hg]
    refine hN15 [(0, Zy (fr : Nat)), (1, v), (2, .pointer (some ⟨pn, 0, none⟩)), (3, .pointer (some ⟨pr, 0, none⟩)), (4, .pointer (some ⟨pg, 0, none⟩)), (5, .pointer (some ⟨ps, 0, none⟩)), (6, .pointer (some ⟨pb, 0, none⟩)), (10, w), (11, Zy (d.natAbs : Nat)), (12, .bool true), (13, Zy S), (17, Zy (s : Nat)), (72, sv), (73, Zy sets.length), (74, Zy (k : Nat))] _ _ ?_ (by simp (maxSteps := 2000000) only [↓Za, ↓Zk, ↓Zs, ↓Ze, ↓Zj, ↓Zt, ↓Zg, ↓Zm, ↓Zf, ↓Zc, ↓Zb, ↓vdn, vup, Zo, Zh, Zi, Zn, Zl, List.map_cons, List.map_nil, cond_true, cond_false, aop, Zw, Zr, Zp, ev, sput, Zu, Zz, Yb, unK, Zd, Zx, Nat.reduceBEq, Nat.reduceAdd, Int.reduceBEq, Int.reduceBNe, Int.reduceLT, Zv, Ya, tup, tyf])
    clear hN15
    try clear N15
    refine Yc fun N16 hN16 => ?_
    simp (maxSteps := 2000000) only [s85, ↓Za, ↓Zk, ↓Zs, ↓Ze, ↓Zj, ↓Zt, ↓Zg, ↓Zm, ↓Zf, ↓Zc, ↓Zb, ↓vdn, vup, Zo, Zh, Zi, Zn, Zl, List.map_cons, List.map_nil, cond_true, cond_false, aop, Zw, Zr, Zp, ev, sput, Zu, Zz, Yb, unK, Zd, Zx, Nat.reduceBEq, Nat.reduceAdd, Int.reduceBEq, Int.reduceBNe, Int.reduceLT, Zv, Ya, tup, tyf]
    refine hN16 [(0, Zy (fr : Nat)), (1, v), (2, .pointer (some ⟨pn, 0, none⟩)), (3, .pointer (some ⟨pr, 0, none⟩)), (4, .pointer (some ⟨pg, 0, none⟩)), (5, .pointer (some ⟨ps, 0, none⟩)), (6, .pointer (some ⟨pb, 0, none⟩)), (10, w), (11, Zy (d.natAbs : Nat)), (12, .bool true), (13, Zy S), (17, Zy (s : Nat)), (18, .int .i64 0), (72, sv), (73, Zy sets.length), (74, Zy (k : Nat))] _ _ ?_ (by simp (maxSteps := 2000000) only [↓Za, ↓Zk, ↓Zs, ↓Ze, ↓Zj, ↓Zt, ↓Zg, ↓Zm, ↓Zf, ↓Zc, ↓Zb, ↓vdn, vup, Zo, Zh, Zi, Zn, Zl, List.map_cons, List.map_nil, cond_true, cond_false, aop, Zw, Zr, Zp, ev, sput, Zu, Zz, Yb, unK, Zd, Zx, Nat.reduceBEq, Nat.reduceAdd, Int.reduceBEq, Int.reduceBNe, Int.reduceLT, Zv, Ya, tup, tyf])
    clear hN16
    try clear N16
    refine Yf fun D hD => ?_
    refine Yc fun N17 hN17 => ?_
    simp (maxSteps := 2000000) only [s85, ↓Za, ↓Zk, ↓Zs, ↓Ze, ↓Zj, ↓Zt, ↓Zg, ↓Zm, ↓Zf, ↓Zc, ↓Zb, ↓vdn, vup, Zo, Zh, Zi, Zn, Zl, List.map_cons, List.map_nil, cond_true, cond_false, aop, Zw, Zr, Zp, ev, sput, Zu, Zz, Yb, unK, Zd, Zx, Nat.reduceBEq, Nat.reduceAdd, Int.reduceBEq, Int.reduceBNe, Int.reduceLT, Zv, Ya, tup, tyf, hw.len, hnl]
    refine hN17 [(0, Zy (fr : Nat)), (1, v), (2, .pointer (some ⟨pn, 0, none⟩)), (3, .pointer (some ⟨pr, 0, none⟩)), (4, .pointer (some ⟨pg, 0, none⟩)), (5, .pointer (some ⟨ps, 0, none⟩)), (6, .pointer (some ⟨pb, 0, none⟩)), (10, w), (11, Zy (d.natAbs : Nat)), (12, .bool true), (13, Zy S), (17, Zy (s : Nat)), (18, .int .i64 0), (72, sv), (73, Zy sets.length), (74, Zy (k : Nat)), (78, w), (79, Zy (n : Nat)), (80, .int .i64 0)] _ _ ?_ (by simp (maxSteps := 2000000) only [↓Za, ↓Zk, ↓Zs, ↓Ze, ↓Zj, ↓Zt, ↓Zg, ↓Zm, ↓Zf, ↓Zc, ↓Zb, ↓vdn, vup, Zo, Zh, Zi, Zn, Zl, List.map_cons, List.map_nil, cond_true, cond_false, aop, Zw, Zr, Zp, ev, sput, Zu, Zz, Yb, unK, Zd, Zx, Nat.reduceBEq, Nat.reduceAdd, Int.reduceBEq, Int.reduceBNe, Int.reduceLT, Zv, Ya, tup, tyf])
    clear hN17
    try clear N17
    refine Ym ?_
    refine Yg fun Qa hQa => ?_
    refine Xu (γ := Nat) (fun i => i ≤ n) (fun i => ([(0, Zy (fr : Nat)), (1, v), (2, .pointer (some ⟨pn, 0, none⟩)), (3, .pointer (some ⟨pr, 0, none⟩)), (4, .pointer (some ⟨pg, 0, none⟩)), (5, .pointer (some ⟨ps, 0, none⟩)), (6, .pointer (some ⟨pb, 0, none⟩)), (10, w), (11, Zy (d.natAbs : Nat)), (12, .bool true), (13, Zy S), (17, Zy (s : Nat)), (18, Zy (pdet.isum F i)), (72, sv), (73, Zy sets.length), (74, Zy (k : Nat)), (78, w), (79, Zy (n : Nat)), (80, Zy (i : Nat))], h1)) (fun i => n - i) 0 (Nat.zero_le _) (by simp (maxSteps := 2000000) only [↓Za, ↓Zk, ↓Zs, ↓Ze, ↓Zj, ↓Zt, ↓Zg, ↓Zm, ↓Zf, ↓Zc, ↓Zb, ↓vdn, vup, Zo, Zh, Zi, Zn, Zl, List.map_cons, List.map_nil, cond_true, cond_false, aop, Zw, Zr, Zp, ev, sput, Zu, Zz, Yb, unK, Zd, Zx, Nat.reduceBEq, Nat.reduceAdd, Int.reduceBEq, Int.reduceBNe, Int.reduceLT, Zv, Ya, tup, tyf, Int.natCast_zero, show pdet.isum F 0 = 0 from rfl]) rfl ?_
    rintro i hi
    refine Yg fun Qb hQb => ?_
    simp only [l85_2]
    by_cases hin2 : (i : Int) < n
    · have hi' : i < n := by omega
      have hiN : i < N.length := by omega
      have htst := @testV s i (by omega)
      have h3 := hNb i hi'
      have hmul : mulV .i64 (if s.testBit i then 1 else 0) (N.getD i 0) = F i := by
        have e : F i = (if s.testBit i = true then 1 else 0) * N.getD i 0 := by rw [hF]
        rw [e]
        split <;> exact mulV_id (by omega) (by omega)
      have hadd : addV .i64 (pdet.isum F i) (F i) = pdet.isum F (i + 1) := by
        have h2 := hFs i hi
        have h5 := hFb i hi'
        have h4 : i * 720 ≤ 4320 := by omega
        exact Vm (by omega) (by omega)
      refine Yc fun N18 hN18 => ?_
      simp (maxSteps := 2000000) only [s85, ↓Za, ↓Zk, ↓Zs, ↓Ze, ↓Zj, ↓Zt, ↓Zg, ↓Zm, ↓Zf, ↓Zc, ↓Zb, ↓vdn, vup, Zo, Zh, Zi, Zn, Zl, List.map_cons, List.map_nil, cond_true, cond_false, aop, Zw, Zr, Zp, ev, sput, Zu, Zz, Yb, unK, Zd, Zx, Nat.reduceBEq, Nat.reduceAdd, Int.reduceBEq, Int.reduceBNe, Int.reduceLT, Zv, Ya, tup, tyf, hin2]
      refine hN18 [(0, Zy (fr : Nat)), (1, v), (2, .pointer (some ⟨pn, 0, none⟩)), (3, .pointer (some ⟨pr, 0, none⟩)), (4, .pointer (some ⟨pg, 0, none⟩)), (5, .pointer (some ⟨ps, 0, none⟩)), (6, .pointer (some ⟨pb, 0, none⟩)), (10, w), (11, Zy (d.natAbs : Nat)), (12, .bool true), (13, Zy S), (17, Zy (s : Nat)), (18, Zy (pdet.isum F i)), (72, sv), (73, Zy sets.length), (74, Zy (k : Nat)), (78, w), (79, Zy (n : Nat)), (80, Zy (i : Nat)), (81, .bool true)] _ _ ?_ (by simp (maxSteps := 2000000) only [↓Za, ↓Zk, ↓Zs, ↓Ze, ↓Zj, ↓Zt, ↓Zg, ↓Zm, ↓Zf, ↓Zc, ↓Zb, ↓vdn, vup, Zo, Zh, Zi, Zn, Zl, List.map_cons, List.map_nil, cond_true, cond_false, aop, Zw, Zr, Zp, ev, sput, Zu, Zz, Yb, unK, Zd, Zx, Nat.reduceBEq, Nat.reduceAdd, Int.reduceBEq, Int.reduceBNe, Int.reduceLT, Zv, Ya, tup, tyf])
      clear hN18
      try clear N18
      refine Yc fun N19 hN19 => ?_
      simp (maxSteps := 2000000) only [s85, ↓Za, ↓Zk, ↓Zs, ↓Ze, ↓Zj, ↓Zt, ↓Zg, ↓Zm, ↓Zf, ↓Zc, ↓Zb, ↓vdn, vup, Zo, Zh, Zi, Zn, Zl, List.map_cons, List.map_nil, cond_true, cond_false, aop, Zw, Zr, Zp, ev, sput, Zu, Zz, Yb, unK, Zd, Zx, Nat.reduceBEq, Nat.reduceAdd, Int.reduceBEq, Int.reduceBNe, Int.reduceLT, Zv, Ya, tup, tyf]
      refine hN19 [(0, Zy (fr : Nat)), (1, v), (2, .pointer (some ⟨pn, 0, none⟩)), (3, .pointer (some ⟨pr, 0, none⟩)), (4, .pointer (some ⟨pg, 0, none⟩)), (5, .pointer (some ⟨ps, 0, none⟩)), (6, .pointer (some ⟨pb, 0, none⟩)), (10, w), (11, Zy (d.natAbs : Nat)), (12, .bool true), (13, Zy S), (17, Zy (s : Nat)), (18, Zy (pdet.isum F i)), (72, sv), (73, Zy sets.length), (74, Zy (k : Nat)), (78, w), (79, Zy (n : Nat)), (80, Zy (i : Nat))] _ _ ?_ (by simp (maxSteps := 2000000) only [↓Za, ↓Zk, ↓Zs, ↓Ze, ↓Zj, ↓Zt, ↓Zg, ↓Zm, ↓Zf, ↓Zc, ↓Zb, ↓vdn, vup, Zo, Zh, Zi, Zn, Zl, List.map_cons, List.map_nil, cond_true, cond_false, aop, Zw, Zr, Zp, ev, sput, Zu, Zz, Yb, unK, Zd, Zx, Nat.reduceBEq, Nat.reduceAdd, Int.reduceBEq, Int.reduceBNe, Int.reduceLT, Zv, Ya, tup, tyf])
      clear hN19
      try clear N19
      refine Yf fun E hE => ?_
      refine Ym ?_
      refine Yc fun N20 hN20 => ?_
      simp (maxSteps := 2000000) only [s85, ↓Za, ↓Zk, ↓Zs, ↓Ze, ↓Zj, ↓Zt, ↓Zg, ↓Zm, ↓Zf, ↓Zc, ↓Zb, ↓vdn, vup, Zo, Zh, Zi, Zn, Zl, List.map_cons, List.map_nil, cond_true, cond_false, aop, Zw, Zr, Zp, ev, sput, Zu, Zz, Yb, unK, Zd, Zx, Nat.reduceBEq, Nat.reduceAdd, Int.reduceBEq, Int.reduceBNe, Int.reduceLT, Zv, Ya, tup, tyf, hw.idx We Xk hiN, hw.load Xj hiN]
      refine hN20 [(0, Zy (fr : Nat)), (1, v), (2, .pointer (some ⟨pn, 0, none⟩)), (3, .pointer (some ⟨pr, 0, none⟩)), (4, .pointer (some ⟨pg, 0, none⟩)), (5, .pointer (some ⟨ps, 0, none⟩)), (6, .pointer (some ⟨pb, 0, none⟩)), (10, w), (11, Zy (d.natAbs : Nat)), (12, .bool true), (13, Zy S), (17, Zy (s : Nat)), (18, Zy (pdet.isum F i)), (19, Zy (i : Nat)), (20, Zy (N.getD i 0)), (72, sv), (73, Zy sets.length), (74, Zy (k : Nat)), (78, w), (79, Zy (n : Nat)), (80, Zy (i : Nat))] _ _ ?_ (by simp (maxSteps := 2000000) only [↓Za, ↓Zk, ↓Zs, ↓Ze, ↓Zj, ↓Zt, ↓Zg, ↓Zm, ↓Zf, ↓Zc, ↓Zb, ↓vdn, vup, Zo, Zh, Zi, Zn, Zl, List.map_cons, List.map_nil, cond_true, cond_false, aop, Zw, Zr, Zp, ev, sput, Zu, Zz, Yb, unK, Zd, Zx, Nat.reduceBEq, Nat.reduceAdd, Int.reduceBEq, Int.reduceBNe, Int.reduceLT, Zv, Ya, tup, tyf])
      clear hN20
      try clear N20
      refine Ye ?_
      simp (maxSteps := 2000000) only [s85, ↓Za, ↓Zk, ↓Zs, ↓Ze, ↓Zj, ↓Zt, ↓Zg, ↓Zm, ↓Zf, ↓Zc, ↓Zb, ↓vdn, vup, Zo, Zh, Zi, Zn, Zl, List.map_cons, List.map_nil, cond_true, cond_false, aop, Zw, Zr, Zp, ev, sput, Zu, Zz, Yb, unK, Zd, Zx, Nat.reduceBEq, Nat.reduceAdd, Int.reduceBEq, Int.reduceBNe, Int.reduceLT, Zv, Ya, tup, tyf, Int.natCast_nonneg, htst, hmul, hadd]
      refine hE [(0, Zy (fr : Nat)), (1, v), (2, .pointer (some ⟨pn, 0, none⟩)), (3, .pointer (some ⟨pr, 0, none⟩)), (4, .pointer (some ⟨pg, 0, none⟩)), (5, .pointer (some ⟨ps, 0, none⟩)), (6, .pointer (some ⟨pb, 0, none⟩)), (10, w), (11, Zy (d.natAbs : Nat)), (12, .bool true), (13, Zy S), (17, Zy (s : Nat)), (18, Zy (pdet.isum F (i + 1))), (72, sv), (73, Zy sets.length), (74, Zy (k : Nat)), (78, w), (79, Zy (n : Nat)), (80, Zy (i : Nat))] _ _ ?_ (by simp (maxSteps := 2000000) only [↓Za, ↓Zk, ↓Zs, ↓Ze, ↓Zj, ↓Zt, ↓Zg, ↓Zm, ↓Zf, ↓Zc, ↓Zb, ↓vdn, vup, Zo, Zh, Zi, Zn, Zl, List.map_cons, List.map_nil, cond_true, cond_false, aop, Zw, Zr, Zp, ev, sput, Zu, Zz, Yb, unK, Zd, Zx, Nat.reduceBEq, Nat.reduceAdd, Int.reduceBEq, Int.reduceBNe, Int.reduceLT, Zv, Ya, tup, tyf])
      clear hE
      try clear E
      refine Ye ?_
      simp (maxSteps := 2000000) only [s85, ↓Za, ↓Zk, ↓Zs, ↓Ze, ↓Zj, ↓Zt, ↓Zg, ↓Zm, ↓Zf, ↓Zc, ↓Zb, ↓vdn, vup, Zo, Zh, Zi, Zn, Zl, List.map_cons, List.map_nil, cond_true, cond_false, aop, Zw, Zr, Zp, ev, sput, Zu, Zz, Yb, unK, Zd, Zx, Nat.reduceBEq, Nat.reduceAdd, Int.reduceBEq, Int.reduceBNe, Int.reduceLT, Zv, Ya, tup, tyf, add1 (show i < 9223372036854775807 by omega)]
      exact hQb _ _ _ ⟨i + 1, hi', by omega, by simp (maxSteps := 2000000) only [↓Za, ↓Zk, ↓Zs, ↓Ze, ↓Zj, ↓Zt, ↓Zg, ↓Zm, ↓Zf, ↓Zc, ↓Zb, ↓vdn, vup, Zo, Zh, Zi, Zn, Zl, List.map_cons, List.map_nil, cond_true, cond_false, aop, Zw, Zr, Zp, ev, sput, Zu, Zz, Yb, unK, Zd, Zx, Nat.reduceBEq, Nat.reduceAdd, Int.reduceBEq, Int.reduceBNe, Int.reduceLT, Zv, Ya, tup, tyf], rfl⟩
    obtain rfl : n = i := by omega
    refine Yc fun N21 hN21 => ?_
    simp (maxSteps := 2000000) only [s85, ↓Za, ↓Zk, ↓Zs, ↓Ze, ↓Zj, ↓Zt, ↓Zg, ↓Zm, ↓Zf, ↓Zc, ↓Zb, ↓vdn, vup, Zo, Zh, Zi, Zn, Zl, List.map_cons, List.map_nil, cond_true, cond_false, aop, Zw, Zr, Zp, ev, sput, Zu, Zz, Yb, unK, Zd, Zx, Nat.reduceBEq, Nat.reduceAdd, Int.reduceBEq, Int.reduceBNe, Int.reduceLT, Zv, Ya, tup, tyf, hin2]
    refine hN21 [(0, Zy (fr : Nat)), (1, v), (2, .pointer (some ⟨pn, 0, none⟩)), (3, .pointer (some ⟨pr, 0, none⟩)), (4, .pointer (some ⟨pg, 0, none⟩)), (5, .pointer (some ⟨ps, 0, none⟩)), (6, .pointer (some ⟨pb, 0, none⟩)), (10, w), (11, Zy (d.natAbs : Nat)), (12, .bool true), (13, Zy S), (17, Zy (s : Nat)), (18, Zy (pdet.isum F n)), (72, sv), (73, Zy sets.length), (74, Zy (k : Nat)), (78, w), (79, Zy (n : Nat)), (80, Zy (n : Nat)), (81, .bool false)] _ _ ?_ (by simp (maxSteps := 2000000) only [↓Za, ↓Zk, ↓Zs, ↓Ze, ↓Zj, ↓Zt, ↓Zg, ↓Zm, ↓Zf, ↓Zc, ↓Zb, ↓vdn, vup, Zo, Zh, Zi, Zn, Zl, List.map_cons, List.map_nil, cond_true, cond_false, aop, Zw, Zr, Zp, ev, sput, Zu, Zz, Yb, unK, Zd, Zx, Nat.reduceBEq, Nat.reduceAdd, Int.reduceBEq, Int.reduceBNe, Int.reduceLT, Zv, Ya, tup, tyf])
    clear hN21
    try clear N21
    refine Yc fun N22 hN22 => ?_
    simp (maxSteps := 2000000) only [s85, ↓Za, ↓Zk, ↓Zs, ↓Ze, ↓Zj, ↓Zt, ↓Zg, ↓Zm, ↓Zf, ↓Zc, ↓Zb, ↓vdn, vup, Zo, Zh, Zi, Zn, Zl, List.map_cons, List.map_nil, cond_true, cond_false, aop, Zw, Zr, Zp, ev, sput, Zu, Zz, Yb, unK, Zd, Zx, Nat.reduceBEq, Nat.reduceAdd, Int.reduceBEq, Int.reduceBNe, Int.reduceLT, Zv, Ya, tup, tyf]
    refine hQb _ _ _ (hQa _ _ _ ?_)
    simp (maxSteps := 2000000) only [s85, ↓Za, ↓Zk, ↓Zs, ↓Ze, ↓Zj, ↓Zt, ↓Zg, ↓Zm, ↓Zf, ↓Zc, ↓Zb, ↓vdn, vup, Zo, Zh, Zi, Zn, Zl, List.map_cons, List.map_nil, cond_true, cond_false, aop, Zw, Zr, Zp, ev, sput, Zu, Zz, Yb, unK, Zd, Zx, Nat.reduceBEq, Nat.reduceAdd, Int.reduceBEq, Int.reduceBNe, Int.reduceLT, Zv, Ya, tup, tyf, if_true]
    obtain ⟨T, hT⟩ : ∃ T, pdet.isum F n = T := ⟨_, rfl⟩
    have hTr : ((T : Int) : Rat) = dot (bitQ s) y n * ((d.natAbs : Int) : Rat) := by
      rw [← hT, isum_cast, dot, Rat.mul_comm, ← sumTo_mul]
      refine sumTo_congr fun j hj => ?_
      rw [hF]
      simp only
      rw [Rat.intCast_mul, hNr j hj, bitQ]
      split
      · rw [show ((1 : Int) : Rat) = 1 from rfl]; grind
      · rw [show ((0 : Int) : Rat) = 0 from rfl]; grind
    rw [hT]
    refine hD [(0, Zy (fr : Nat)), (1, v), (2, .pointer (some ⟨pn, 0, none⟩)), (3, .pointer (some ⟨pr, 0, none⟩)), (4, .pointer (some ⟨pg, 0, none⟩)), (5, .pointer (some ⟨ps, 0, none⟩)), (6, .pointer (some ⟨pb, 0, none⟩)), (10, w), (11, Zy (d.natAbs : Nat)), (12, .bool true), (13, Zy S), (17, Zy (s : Nat)), (18, Zy T), (72, sv), (73, Zy sets.length), (74, Zy (k : Nat))] _ _ ?_ (by simp (maxSteps := 2000000) only [↓Za, ↓Zk, ↓Zs, ↓Ze, ↓Zj, ↓Zt, ↓Zg, ↓Zm, ↓Zf, ↓Zc, ↓Zb, ↓vdn, vup, Zo, Zh, Zi, Zn, Zl, List.map_cons, List.map_nil, cond_true, cond_false, aop, Zw, Zr, Zp, ev, sput, Zu, Zz, Yb, unK, Zd, Zx, Nat.reduceBEq, Nat.reduceAdd, Int.reduceBEq, Int.reduceBNe, Int.reduceLT, Zv, Ya, tup, tyf])
    clear hD
    try clear D
    clear hQa hQb
    by_cases hgt : T > (d.natAbs : Int)
    · refine Yc fun N23 hN23 => ?_
      simp (maxSteps := 2000000) only [s85, ↓Za, ↓Zk, ↓Zs, ↓Ze, ↓Zj, ↓Zt, ↓Zg, ↓Zm, ↓Zf, ↓Zc, ↓Zb, ↓vdn, vup, Zo, Zh, Zi, Zn, Zl, List.map_cons, List.map_nil, cond_true, cond_false, aop, Zw, Zr, Zp, ev, sput, Zu, Zz, Yb, unK, Zd, Zx, Nat.reduceBEq, Nat.reduceAdd, Int.reduceBEq, Int.reduceBNe, Int.reduceLT, Zv, Ya, tup, tyf, hgt]
      refine hN23 [(0, Zy (fr : Nat)), (1, v), (2, .pointer (some ⟨pn, 0, none⟩)), (3, .pointer (some ⟨pr, 0, none⟩)), (4, .pointer (some ⟨pg, 0, none⟩)), (5, .pointer (some ⟨ps, 0, none⟩)), (6, .pointer (some ⟨pb, 0, none⟩)), (10, w), (11, Zy (d.natAbs : Nat)), (12, .bool true), (13, Zy S), (17, Zy (s : Nat)), (18, Zy T), (72, sv), (73, Zy sets.length), (74, Zy (k : Nat)), (96, .bool true)] _ _ ?_ (by simp (maxSteps := 2000000) only [↓Za, ↓Zk, ↓Zs, ↓Ze, ↓Zj, ↓Zt, ↓Zg, ↓Zm, ↓Zf, ↓Zc, ↓Zb, ↓vdn, vup, Zo, Zh, Zi, Zn, Zl, List.map_cons, List.map_nil, cond_true, cond_false, aop, Zw, Zr, Zp, ev, sput, Zu, Zz, Yb, unK, Zd, Zx, Nat.reduceBEq, Nat.reduceAdd, Int.reduceBEq, Int.reduceBNe, Int.reduceLT, Zv, Ya, tup, tyf])
      clear hN23
      try clear N23
      refine Xm rfl ?_
      refine Ye ?_
      simp (maxSteps := 2000000) only [s85, ↓Za, ↓Zk, ↓Zs, ↓Ze, ↓Zj, ↓Zt, ↓Zg, ↓Zm, ↓Zf, ↓Zc, ↓Zb, ↓vdn, vup, Zo, Zh, Zi, Zn, Zl, List.map_cons, List.map_nil, cond_true, cond_false, aop, Zw, Zr, Zp, ev, sput, Zu, Zz, Yb, unK, Zd, Zx, Nat.reduceBEq, Nat.reduceAdd, Int.reduceBEq, Int.reduceBNe, Int.reduceLT, Zv, Ya, tup, tyf]
      refine hQ2 _ _ _ (hQ _ _ _ ?_)
      simp (maxSteps := 2000000) only [s85, ↓Za, ↓Zk, ↓Zs, ↓Ze, ↓Zj, ↓Zt, ↓Zg, ↓Zm, ↓Zf, ↓Zc, ↓Zb, ↓vdn, vup, Zo, Zh, Zi, Zn, Zl, List.map_cons, List.map_nil, cond_true, cond_false, aop, Zw, Zr, Zp, ev, sput, Zu, Zz, Yb, unK, Zd, Zx, Nat.reduceBEq, Nat.reduceAdd, Int.reduceBEq, Int.reduceBNe, Int.reduceLT, Zv, Ya, tup, tyf]
      obtain ⟨hE, hb⟩ := mono hE1
      refine none_ _ hE hb fun x hx => ?_
      have h2 := hx.ok.le s hsm
      have h3 : dot (bitQ s) x n = dot (bitQ s) y n := sumTo_congr fun j hj => by rw [hy3 x hx j hj]
      rw [h3] at h2
      have h4 : ((T : Int) : Rat) ≤ ((d.natAbs : Int) : Rat) := by
        rw [hTr]
        have := Rat.mul_le_mul_of_nonneg_right h2 (Rat.le_of_lt hdp)
        rwa [Rat.one_mul] at this
      have := Rat.intCast_le_intCast.1 h4
      omega
    refine Yc fun N24 hN24 => ?_
    simp (maxSteps := 2000000) only [s85, ↓Za, ↓Zk, ↓Zs, ↓Ze, ↓Zj, ↓Zt, ↓Zg, ↓Zm, ↓Zf, ↓Zc, ↓Zb, ↓vdn, vup, Zo, Zh, Zi, Zn, Zl, List.map_cons, List.map_nil, cond_true, cond_false, aop, Zw, Zr, Zp, ev, sput, Zu, Zz, Yb, unK, Zd, Zx, Nat.reduceBEq, Nat.reduceAdd, Int.reduceBEq, Int.reduceBNe, Int.reduceLT, Zv, Ya, tup, tyf, hgt]
    refine hN24 [(0, Zy (fr : Nat)), (1, v), (2, .pointer (some ⟨pn, 0, none⟩)), (3, .pointer (some ⟨pr, 0, none⟩)), (4, .pointer (some ⟨pg, 0, none⟩)), (5, .pointer (some ⟨ps, 0, none⟩)), (6, .pointer (some ⟨pb, 0, none⟩)), (10, w), (11, Zy (d.natAbs : Nat)), (12, .bool true), (13, Zy S), (17, Zy (s : Nat)), (18, Zy T), (72, sv), (73, Zy sets.length), (74, Zy (k : Nat)), (96, .bool false)] _ _ ?_ (by simp (maxSteps := 2000000) only [↓Za, ↓Zk, ↓Zs, ↓Ze, ↓Zj, ↓Zt, ↓Zg, ↓Zm, ↓Zf, ↓Zc, ↓Zb, ↓vdn, vup, Zo, Zh, Zi, Zn, Zl, List.map_cons, List.map_nil, cond_true, cond_false, aop, Zw, Zr, Zp, ev, sput, Zu, Zz, Yb, unK, Zd, Zx, Nat.reduceBEq, Nat.reduceAdd, Int.reduceBEq, Int.reduceBNe, Int.reduceLT, Zv, Ya, tup, tyf])
    clear hN24
    try clear N24
    refine Yy rfl ?_
    refine Ye ?_
    simp (maxSteps := 2000000) only [s85, ↓Za, ↓Zk, ↓Zs, ↓Ze, ↓Zj, ↓Zt, ↓Zg, ↓Zm, ↓Zf, ↓Zc, ↓Zb, ↓vdn, vup, Zo, Zh, Zi, Zn, Zl, List.map_cons, List.map_nil, cond_true, cond_false, aop, Zw, Zr, Zp, ev, sput, Zu, Zz, Yb, unK, Zd, Zx, Nat.reduceBEq, Nat.reduceAdd, Int.reduceBEq, Int.reduceBNe, Int.reduceLT, Zv, Ya, tup, tyf]
    refine hB [(0, Zy (fr : Nat)), (1, v), (2, .pointer (some ⟨pn, 0, none⟩)), (3, .pointer (some ⟨pr, 0, none⟩)), (4, .pointer (some ⟨pg, 0, none⟩)), (5, .pointer (some ⟨ps, 0, none⟩)), (6, .pointer (some ⟨pb, 0, none⟩)), (10, w), (11, Zy (d.natAbs : Nat)), (12, .bool true), (13, Zy S), (72, sv), (73, Zy sets.length), (74, Zy (k : Nat))] _ _ ?_ (by simp (maxSteps := 2000000) only [↓Za, ↓Zk, ↓Zs, ↓Ze, ↓Zj, ↓Zt, ↓Zg, ↓Zm, ↓Zf, ↓Zc, ↓Zb, ↓vdn, vup, Zo, Zh, Zi, Zn, Zl, List.map_cons, List.map_nil, cond_true, cond_false, aop, Zw, Zr, Zp, ev, sput, Zu, Zz, Yb, unK, Zd, Zx, Nat.reduceBEq, Nat.reduceAdd, Int.reduceBEq, Int.reduceBNe, Int.reduceLT, Zv, Ya, tup, tyf])
    clear hB
    try clear B
    refine Ye ?_
    simp (maxSteps := 2000000) only [s85, ↓Za, ↓Zk, ↓Zs, ↓Ze, ↓Zj, ↓Zt, ↓Zg, ↓Zm, ↓Zf, ↓Zc, ↓Zb, ↓vdn, vup, Zo, Zh, Zi, Zn, Zl, List.map_cons, List.map_nil, cond_true, cond_false, aop, Zw, Zr, Zp, ev, sput, Zu, Zz, Yb, unK, Zd, Zx, Nat.reduceBEq, Nat.reduceAdd, Int.reduceBEq, Int.reduceBNe, Int.reduceLT, Zv, Ya, tup, tyf, add1 (show k < 9223372036854775807 by omega)]
    refine hQ2 _ _ _ ⟨k + 1, ⟨hk', fun j hj => ?_⟩, by omega, by simp (maxSteps := 2000000) only [↓Za, ↓Zk, ↓Zs, ↓Ze, ↓Zj, ↓Zt, ↓Zg, ↓Zm, ↓Zf, ↓Zc, ↓Zb, ↓vdn, vup, Zo, Zh, Zi, Zn, Zl, List.map_cons, List.map_nil, cond_true, cond_false, aop, Zw, Zr, Zp, ev, sput, Zu, Zz, Yb, unK, Zd, Zx, Nat.reduceBEq, Nat.reduceAdd, Int.reduceBEq, Int.reduceBNe, Int.reduceLT, Zv, Ya, tup, tyf], rfl⟩
    by_cases hjk : j = k
    · rw [hjk, hs]
      have h4 : ((T : Int) : Rat) ≤ ((d.natAbs : Int) : Rat) := Rat.intCast_le_intCast.2 (by omega)
      rw [hTr] at h4
      refine Classical.byContradiction fun hc => ?_
      have h5 : (1 : Rat) < dot (bitQ s) y n := Rat.not_le.1 hc
      have h6' := Rat.mul_lt_mul_of_pos_right h5 hdp
      rw [Rat.one_mul] at h6'
      exact absurd h4 (Rat.not_le.2 h6')
    · exact hok j (by omega)
  obtain rfl : k = sets.length := by omega
  refine Yc fun N25 hN25 => ?_
  simp (maxSteps := 2000000) only [s85, ↓Za, ↓Zk, ↓Zs, ↓Ze, ↓Zj, ↓Zt, ↓Zg, ↓Zm, ↓Zf, ↓Zc, ↓Zb, ↓vdn, vup, Zo, Zh, Zi, Zn, Zl, List.map_cons, List.map_nil, cond_true, cond_false, aop, Zw, Zr, Zp, ev, sput, Zu, Zz, Yb, unK, Zd, Zx, Nat.reduceBEq, Nat.reduceAdd, Int.reduceBEq, Int.reduceBNe, Int.reduceLT, Zv, Ya, tup, tyf, hkin]
  refine hN25 [(0, Zy (fr : Nat)), (1, v), (2, .pointer (some ⟨pn, 0, none⟩)), (3, .pointer (some ⟨pr, 0, none⟩)), (4, .pointer (some ⟨pg, 0, none⟩)), (5, .pointer (some ⟨ps, 0, none⟩)), (6, .pointer (some ⟨pb, 0, none⟩)), (10, w), (11, Zy (d.natAbs : Nat)), (12, .bool true), (13, Zy S), (72, sv), (73, Zy sets.length), (74, Zy sets.length), (75, .bool false)] _ _ ?_ (by simp (maxSteps := 2000000) only [↓Za, ↓Zk, ↓Zs, ↓Ze, ↓Zj, ↓Zt, ↓Zg, ↓Zm, ↓Zf, ↓Zc, ↓Zb, ↓vdn, vup, Zo, Zh, Zi, Zn, Zl, List.map_cons, List.map_nil, cond_true, cond_false, aop, Zw, Zr, Zp, ev, sput, Zu, Zz, Yb, unK, Zd, Zx, Nat.reduceBEq, Nat.reduceAdd, Int.reduceBEq, Int.reduceBNe, Int.reduceLT, Zv, Ya, tup, tyf])
  clear hN25
  try clear N25
  refine Yc fun N26 hN26 => ?_
  simp (maxSteps := 2000000) only [s85, ↓Za, ↓Zk, ↓Zs, ↓Ze, ↓Zj, ↓Zt, ↓Zg, ↓Zm, ↓Zf, ↓Zc, ↓Zb, ↓vdn, vup, Zo, Zh, Zi, Zn, Zl, List.map_cons, List.map_nil, cond_true, cond_false, aop, Zw, Zr, Zp, ev, sput, Zu, Zz, Yb, unK, Zd, Zx, Nat.reduceBEq, Nat.reduceAdd, Int.reduceBEq, Int.reduceBNe, Int.reduceLT, Zv, Ya, tup, tyf]
  refine hQ2 _ _ _ (hQ _ _ _ ?_)
  simp (maxSteps := 2000000) only [s85, ↓Za, ↓Zk, ↓Zs, ↓Ze, ↓Zj, ↓Zt, ↓Zg, ↓Zm, ↓Zf, ↓Zc, ↓Zb, ↓vdn, vup, Zo, Zh, Zi, Zn, Zl, List.map_cons, List.map_nil, cond_true, cond_false, aop, Zw, Zr, Zp, ev, sput, Zu, Zz, Yb, unK, Zd, Zx, Nat.reduceBEq, Nat.reduceAdd, Int.reduceBEq, Int.reduceBNe, Int.reduceLT, Zv, Ya, tup, tyf, if_true]
  refine hZ [(0, Zy (fr : Nat)), (1, v), (2, .pointer (some ⟨pn, 0, none⟩)), (3, .pointer (some ⟨pr, 0, none⟩)), (4, .pointer (some ⟨pg, 0, none⟩)), (5, .pointer (some ⟨ps, 0, none⟩)), (6, .pointer (some ⟨pb, 0, none⟩)), (10, w), (11, Zy (d.natAbs : Nat)), (12, .bool true), (13, Zy S)] _ _ ?_ (by simp (maxSteps := 2000000) only [↓Za, ↓Zk, ↓Zs, ↓Ze, ↓Zj, ↓Zt, ↓Zg, ↓Zm, ↓Zf, ↓Zc, ↓Zb, ↓vdn, vup, Zo, Zh, Zi, Zn, Zl, List.map_cons, List.map_nil, cond_true, cond_false, aop, Zw, Zr, Zp, ev, sput, Zu, Zz, Yb, unK, Zd, Zx, Nat.reduceBEq, Nat.reduceAdd, Int.reduceBEq, Int.reduceBNe, Int.reduceLT, Zv, Ya, tup, tyf])
  clear hZ
  try clear Z
  clear hQ hQ2
  have hpf : PFeas n sets y := ⟨fun j hj => Classical.byContradiction fun hc => by
    have h2 : y j < 0 := Rat.not_le.1 hc
    have h3 := Rat.mul_lt_mul_of_pos_right h2 hdp
    rw [Rat.zero_mul, ← hNr j hj] at h3
    have := hN0 j hj
    have h4 : (0 : Rat) ≤ ((N.getD j 0 : Int) : Rat) := Rat.intCast_nonneg.2 this
    exact absurd h4 (Rat.not_le.2 h3), fun s hs => by
    obtain ⟨j, hj, rfl⟩ := List.mem_iff_getElem.1 hs
    have := hok j hj
    rwa [List.getD, List.getElem?_eq_getElem hj] at this⟩
  have hab : d.natAbs ≤ 720 := by rw [← hd]; exact Nat.le_trans (pdet_abs n _ hlen fun r hr => (hr01 r hr).2) (fact_le h6)
  have hSa : S.natAbs ≤ 4320 := by rw [← hS]; exact Nat.le_trans (hSb n (Nat.le_refl n)) (by omega)
  obtain ⟨f, hf⟩ : ∃ f, f = Rat.divInt S d.natAbs := ⟨_, rfl⟩
  have hfy : f = sumTo y n := by
    have hne0 : (((d.natAbs : Nat) : Int) : Rat) ≠ 0 := fun h => by rw [h] at hdp; exact absurd hdp (by decide)
    rw [hf, Rat.divInt_eq_div, hSr, Rat.div_def, Rat.mul_assoc, Rat.mul_inv_cancel _ hne0, Rat.mul_one]
  have hfn : f.num.natAbs ≤ 4320 ∧ f.den ≤ 720 := by
    obtain ⟨t1, t2⟩ := terms (x := S) (n := d.natAbs) (by omega)
    rw [← hf] at t1 t2
    have hg := Nat.gcd_pos_of_pos_right S.natAbs (show 0 < d.natAbs by omega)
    refine ⟨?_, ?_⟩
    · rw [← t1, Int.natAbs_ediv_of_dvd (gcd_dvd_int S d.natAbs)]
      exact Nat.le_trans (Nat.div_le_self _ _) hSa
    · have : d.natAbs / Nat.gcd S.natAbs d.natAbs ≤ d.natAbs := Nat.div_le_self _ _
      omega
  have hfr := frac_call (h := h1) (a := S) (b := ((d.natAbs : Nat) : Int)) (by omega) (by omega) (by omega)
  rw [← hf] at hfr
  have hb1 : h1[pb]? = some (bC q) := (mono hE1).2
  obtain ⟨G, hG⟩ : ∃ G, G = h1 ++ [bC f] := ⟨_, rfl⟩
  have hGf : G[h1.length]? = some (bC f) := by rw [hG]; exact Xa _ _
  have hGb : G[pb]? = some (bC q) := by rw [hG]; exact Vd hb1 _
  have hEG : Ext (fun _ => False) h G := by rw [hG]; exact hE1.trans (Ext.app _ _ _)
  have hst : ∀ {K : Yd → Prop}, Xp prog (h1 ++ [Blk.cells [.int .i64 0, .int .i64 0] 44 false]) 44 (.pointer (some ⟨h1.length, 0, none⟩)) (.agg #[Zy f.num, Zy f.den]) K = K G := fun {K} => by
    rw [storeF (Xa h1 (Blk.cells [.int .i64 0, .int .i64 0] 44 false)) rfl, set_new, hG]; rfl
  refine Yc fun N27 hN27 => ?_
  simp (maxSteps := 2000000) only [s85, ↓Za, ↓Zk, ↓Zs, ↓Ze, ↓Zj, ↓Zt, ↓Zg, ↓Zm, ↓Zf, ↓Zc, ↓Zb, ↓vdn, vup, Zo, Zh, Zi, Zn, Zl, List.map_cons, List.map_nil, cond_true, cond_false, aop, Zw, Zr, Zp, ev, sput, Zu, Zz, Yb, unK, Zd, Zx, Nat.reduceBEq, Nat.reduceAdd, Int.reduceBEq, Int.reduceBNe, Int.reduceLT, Zv, Ya, tup, tyf, Yv, List.nil_append, List.append_nil, List.toList_toArray, List.cons_append]
  refine hfr.mono ?_
  rintro _ h1' ⟨rfl, rfl⟩
  simp (maxSteps := 2000000) only [s85, ↓Za, ↓Zk, ↓Zs, ↓Ze, ↓Zj, ↓Zt, ↓Zg, ↓Zm, ↓Zf, ↓Zc, ↓Zb, ↓vdn, vup, Zo, Zh, Zi, Zn, Zl, List.map_cons, List.map_nil, cond_true, cond_false, aop, Zw, Zr, Zp, ev, sput, Zu, Zz, Yb, unK, Zd, Zx, Nat.reduceBEq, Nat.reduceAdd, Int.reduceBEq, Int.reduceBNe, Int.reduceLT, Zv, Ya, tup, tyf, Wm, Xv, Vl, qV, frV, hst]
  refine hN27 [(0, Zy (fr : Nat)), (1, v), (2, .pointer (some ⟨pn, 0, none⟩)), (3, .pointer (some ⟨pr, 0, none⟩)), (4, .pointer (some ⟨pg, 0, none⟩)), (5, .pointer (some ⟨ps, 0, none⟩)), (6, .pointer (some ⟨pb, 0, none⟩)), (10, w), (11, Zy (d.natAbs : Nat)), (12, .bool true), (13, Zy S), (21, .pointer (some ⟨h1'.length, 0, none⟩))] _ _ ?_ (by simp (maxSteps := 2000000) only [↓Za, ↓Zk, ↓Zs, ↓Ze, ↓Zj, ↓Zt, ↓Zg, ↓Zm, ↓Zf, ↓Zc, ↓Zb, ↓vdn, vup, Zo, Zh, Zi, Zn, Zl, List.map_cons, List.map_nil, cond_true, cond_false, aop, Zw, Zr, Zp, ev, sput, Zu, Zz, Yb, unK, Zd, Zx, Nat.reduceBEq, Nat.reduceAdd, Int.reduceBEq, Int.reduceBNe, Int.reduceLT, Zv, Ya, tup, tyf])
  clear hN27
  try clear N27
  have hl1 : (q.num * f.den).natAbs ≤ 4320 * 720 := by
    rw [Int.natAbs_mul]; exact Nat.mul_le_mul ha.2.1 (by simpa using hfn.2)
  have hl2 : (f.num * q.den).natAbs ≤ 4320 * 720 := by
    rw [Int.natAbs_mul]; exact Nat.mul_le_mul hfn.1 (by simpa using ha.2.2)
  have hls := less_call (h := G) (a := q.num) (b := q.den) (c := f.num) (d := f.den) (by omega) (by omega)
  have hlt : (q.num * f.den < f.num * q.den) ↔ q < f := (Rat.lt_iff q f).symm
  refine Yc fun N28 hN28 => ?_
  simp (maxSteps := 2000000) only [s85, ↓Za, ↓Zk, ↓Zs, ↓Ze, ↓Zj, ↓Zt, ↓Zg, ↓Zm, ↓Zf, ↓Zc, ↓Zb, ↓vdn, vup, Zo, Zh, Zi, Zn, Zl, List.map_cons, List.map_nil, cond_true, cond_false, aop, Zw, Zr, Zp, ev, sput, Zu, Zz, Yb, unK, Zd, Zx, Nat.reduceBEq, Nat.reduceAdd, Int.reduceBEq, Int.reduceBNe, Int.reduceLT, Zv, Ya, tup, tyf, loadF hGb, loadF hGf, Yv, List.nil_append, List.append_nil, List.toList_toArray, List.cons_append]
  refine hls.mono ?_
  rintro _ G' ⟨rfl, rfl⟩
  refine hN28 [(0, Zy (fr : Nat)), (1, v), (2, .pointer (some ⟨pn, 0, none⟩)), (3, .pointer (some ⟨pr, 0, none⟩)), (4, .pointer (some ⟨pg, 0, none⟩)), (5, .pointer (some ⟨ps, 0, none⟩)), (6, .pointer (some ⟨pb, 0, none⟩)), (10, w), (11, Zy (d.natAbs : Nat)), (12, .bool true), (13, Zy S), (21, .pointer (some ⟨h1'.length, 0, none⟩)), (103, .bool (decide (q.num * f.den < f.num * q.den)))] _ _ ?_ (by simp (maxSteps := 2000000) only [↓Za, ↓Zk, ↓Zs, ↓Ze, ↓Zj, ↓Zt, ↓Zg, ↓Zm, ↓Zf, ↓Zc, ↓Zb, ↓vdn, vup, Zo, Zh, Zi, Zn, Zl, List.map_cons, List.map_nil, cond_true, cond_false, aop, Zw, Zr, Zp, ev, sput, Zu, Zz, Yb, unK, Zd, Zx, Nat.reduceBEq, Nat.reduceAdd, Int.reduceBEq, Int.reduceBNe, Int.reduceLT, Zv, Ya, tup, tyf])
  clear hN28
  try clear N28
  have fin : ∀ (h' : Yd) (q' : Rat), Ext (fun b => b = pb) h h' → h'[pb]? = some (bC q') → Att n sets q' → q ≤ q' → f ≤ q' → GR n sets pb h q B fr 0 h' := fun h' q' hE hb hat hq' hf' =>
    ⟨hE, q', hb, hat, hq', fun t _ ht x hx => by
      obtain rfl : t = [] := List.length_eq_zero_iff.1 ht
      rw [List.append_nil] at hx
      have : sumTo x n = sumTo y n := sumTo_congr fun j hj => hy3 x hx j hj
      rw [this, ← hfy]; exact hf'⟩
  by_cases hqf : q < f
  · rw [decide_eq_true (hlt.2 hqf)]
    refine Xm rfl ?_
    refine Ye ?_
    simp (maxSteps := 2000000) only [s85, ↓Za, ↓Zk, ↓Zs, ↓Ze, ↓Zj, ↓Zt, ↓Zg, ↓Zm, ↓Zf, ↓Zc, ↓Zb, ↓vdn, vup, Zo, Zh, Zi, Zn, Zl, List.map_cons, List.map_nil, cond_true, cond_false, aop, Zw, Zr, Zp, ev, sput, Zu, Zz, Yb, unK, Zd, Zx, Nat.reduceBEq, Nat.reduceAdd, Int.reduceBEq, Int.reduceBNe, Int.reduceLT, Zv, Ya, tup, tyf, loadF hGf, storeF hGb rfl]
    exact fin _ f ((mono hEG).1.trans (Ext.set _ rfl)) (get_set (Yx hGb) _) ⟨⟨y, hpf, hfy.symm⟩, hfn⟩ (Rat.le_of_lt hqf) Rat.le_refl
  · rw [decide_eq_false (fun h => hqf (hlt.1 h))]
    refine Yy rfl ?_
    refine Ye ?_
    simp (maxSteps := 2000000) only [s85, ↓Za, ↓Zk, ↓Zs, ↓Ze, ↓Zj, ↓Zt, ↓Zg, ↓Zm, ↓Zf, ↓Zc, ↓Zb, ↓vdn, vup, Zo, Zh, Zi, Zn, Zl, List.map_cons, List.map_nil, cond_true, cond_false, aop, Zw, Zr, Zp, ev, sput, Zu, Zz, Yb, unK, Zd, Zx, Nat.reduceBEq, Nat.reduceAdd, Int.reduceBEq, Int.reduceBNe, Int.reduceLT, Zv, Ya, tup, tyf]
    exact fin _ q (mono hEG).1 hGb ha Rat.le_refl (Rat.not_lt.1 hqf)
end Go.Proofs.Tryd.Am

namespace Go.Proofs.Tryd.Am
open Go.Am Bq
set_option maxRecDepth 100000
set_option maxHeartbeats 4000000

theorem each_map {R : Value → List Int → Prop} {f : Nat → Value} {g : Nat → List Int} : ∀ {B : List Nat}, (∀ k ∈ B, R (f k) (g k)) → Each R (B.map f) (B.map g)
  | [], _ => trivial
  | k :: B, h => ⟨h k (by simp), each_map fun k hk => h k (by simp [hk])⟩
theorem GE.row {n : Nat} {sets : List Nat} {rws : List Value} {h0 H : Yd} {pn pr pg ps pb : Nat} {rv sv : Value} (ge : GE n sets rws h0 pn pr pg ps pb rv sv) (hk : KG h0 pb H) {k : Nat} (h : k < sets.length + n) : IntSl H (rws.getD k undef) (rowI n sets k) := by
  have := (ge.rows H hk).2.get undef [] (k := k) (by simpa using h)
  rwa [List.getD, List.getD, List.getElem?_map, List.getElem?_range h] at this
theorem buildSlW {P : Program} {h : Yd} {w : Value} {t e : TypeId} (he : elemOf' P t = some e) (hz : Wb P e = some [.slice none 0 0]) (hs : esz P e = some 1) {xs : List Int} (hw : IntSl h w xs) {K : Value → Yd → Prop} :
    Yt P h t 1 [(0, w)] K = K (.slice (some ⟨h.length, 0, none⟩) 1 1) (h ++ [.cells [w] e false]) := by
  have e1 : fillL (fun i => some (i * 1, 1)) (reps [.slice none 0 0] 1) [(0, w)] = some [w] := by
    rcases hw with ⟨rfl, rfl⟩ | ⟨b, o, sp, cap, c, e', ro, rfl, _⟩ <;> simp [fillL, Vh, cellsOf, reps, Yp]
  have e2 : mkb [w] e = .cells [w] e false := mkb_no (by simp) fun w' hw' => by
    rw [List.mem_singleton.1 hw']; exact (intSl_notI hw).1
  simp only [Yt, he, hz, hs, e1, e2]
  exact propext ⟨fun h => h.2.2.2, fun h => ⟨rfl, by decide, by decide, h⟩⟩
theorem grow_call [Tabs prog] {n : Nat} {sets : List Nat} {rws : List Value} {h0 : Yd} {pn pr pg ps pb : Nat} {rv sv : Value} (ge : GE n sets rws h0 pn pr pg ps pb rv sv) : ∀ (d fr : Nat) (B : List Nat) (h : Yd) (v : Value) (q : Rat), B.length + d = n → KG h0 pb h → OwnV 22 h v (B.map fun k => rws.getD k undef) →
    (∀ k ∈ B, k < sets.length + n) → fr ≤ sets.length + n → h[pb]? = some (bC q) → Att n sets q →
    ACall prog 85 [Zy (fr : Nat), v, .pointer (some ⟨pn, 0, none⟩), .pointer (some ⟨pr, 0, none⟩), .pointer (some ⟨pg, 0, none⟩), .pointer (some ⟨ps, 0, none⟩), .pointer (some ⟨pb, 0, none⟩)] h fun _ h' => GR n sets pb h q B fr d h' := by
  intro d
  induction d with
  | zero =>
    intro fr B h v q hB hk ho hBm hfr hq ha
    exact leaf_call ge (by omega) hk ⟨_, ho.val, each_map fun k hkB => ge.row hk (hBm k hkB)⟩ hq ha fun x hx => by rw [List.append_nil]; exact hx
  | succ d ih =>
    intro fr B h v q hB hk ho hBm hfr hq ha
    have hn6 := ge.n6
    have hlS := ge.l
    have hlt : (B.length : Int) < n := by omega
    have hml : (B.map fun k => rws.getD k undef).length = B.length := List.length_map ..
    refine s85_callW (by simp) ?_
    simp only [s85]
    refine Yf fun M hM => ?_
    refine Yc fun N1 hN1 => ?_
    simp (maxSteps := 2000000) only [s85, ↓Za, ↓Zk, ↓Zs, ↓Ze, ↓Zj, ↓Zt, ↓Zg, ↓Zm, ↓Zf, ↓Zc, ↓Zb, ↓vdn, vup, Zo, Zh, Zi, Zn, Zl, List.map_cons, List.map_nil, cond_true, cond_false, aop, Zw, Zr, Zp, ev, sput, Zu, Zz, Yb, unK, Zd, Zx, Nat.reduceBEq, Nat.reduceAdd, Int.reduceBEq, Int.reduceBNe, Int.reduceLT, Zv, Ya, tup, tyf, ho.val.len, hml, Wz (hk.at_ ge.nb ge.fn) Xj, hlt]
    refine hN1 [(0, Zy (fr : Nat)), (1, v), (2, .pointer (some ⟨pn, 0, none⟩)), (3, .pointer (some ⟨pr, 0, none⟩)), (4, .pointer (some ⟨pg, 0, none⟩)), (5, .pointer (some ⟨ps, 0, none⟩)), (6, .pointer (some ⟨pb, 0, none⟩)), (25, .bool true)] _ _ ?_ (by simp (maxSteps := 2000000) only [↓Za, ↓Zk, ↓Zs, ↓Ze, ↓Zj, ↓Zt, ↓Zg, ↓Zm, ↓Zf, ↓Zc, ↓Zb, ↓vdn, vup, Zo, Zh, Zi, Zn, Zl, List.map_cons, List.map_nil, cond_true, cond_false, aop, Zw, Zr, Zp, ev, sput, Zu, Zz, Yb, unK, Zd, Zx, Nat.reduceBEq, Nat.reduceAdd, Int.reduceBEq, Int.reduceBNe, Int.reduceLT, Zv, Ya, tup, tyf])
    clear hN1
    try clear N1
    refine Xm rfl ?_
    refine Yf fun Z hZ => ?_
    refine Yc fun N2 hN2 => ?_
    simp (maxSteps := 2000000) only [s85, ↓Za, ↓Zk, ↓Zs, ↓Ze, ↓Zj, ↓Zt, ↓Zg, ↓Zm, ↓Zf, ↓Zc, ↓Zb, ↓vdn, vup, Zo, Zh, Zi, Zn, Zl, List.map_cons, List.map_nil, cond_true, cond_false, aop, Zw, Zr, Zp, ev, sput, Zu, Zz, Yb, unK, Zd, Zx, Nat.reduceBEq, Nat.reduceAdd, Int.reduceBEq, Int.reduceBNe, Int.reduceLT, Zv, Ya, tup, tyf]
    refine hN2 [(0, Zy (fr : Nat)), (1, v), (2, .pointer (some ⟨pn, 0, none⟩)), (3, .pointer (some ⟨pr, 0, none⟩)), (4, .pointer (some ⟨pg, 0, none⟩)), (5, .pointer (some ⟨ps, 0, none⟩)), (6, .pointer (some ⟨pb, 0, none⟩)), (9, Zy (fr : Nat)), (25, .bool true)] _ _ ?_ (by simp (maxSteps := 2000000) only [↓Za, ↓Zk, ↓Zs, ↓Ze, ↓Zj, ↓Zt, ↓Zg, ↓Zm, ↓Zf, ↓Zc, ↓Zb, ↓vdn, vup, Zo, Zh, Zi, Zn, Zl, List.map_cons, List.map_nil, cond_true, cond_false, aop, Zw, Zr, Zp, ev, sput, Zu, Zz, Yb, unK, Zd, Zx, Nat.reduceBEq, Nat.reduceAdd, Int.reduceBEq, Int.reduceBNe, Int.reduceLT, Zv, Ya, tup, tyf])
    clear hN2
    try clear N2
    refine Ym ?_
    refine Yg fun Q hQ => ?_
    refine Xu (γ := Nat × Yd × Rat) (fun g => (fr ≤ g.1 ∧ g.1 ≤ sets.length + n) ∧ Ext (fun b => b = pb) h g.2.1 ∧ g.2.1[pb]? = some (bC g.2.2) ∧ Att n sets g.2.2 ∧ q ≤ g.2.2 ∧
        ∀ k t, fr ≤ k → k < g.1 → t.Sublist (List.range' (k + 1) (sets.length + n - (k + 1))) → t.length = d → ∀ x, Corner n sets (B ++ k :: t) x → sumTo x n ≤ g.2.2)
      (fun g => ([(0, Zy (fr : Nat)), (1, v), (2, .pointer (some ⟨pn, 0, none⟩)), (3, .pointer (some ⟨pr, 0, none⟩)), (4, .pointer (some ⟨pg, 0, none⟩)), (5, .pointer (some ⟨ps, 0, none⟩)), (6, .pointer (some ⟨pb, 0, none⟩)), (9, Zy (g.1 : Nat)), (25, .bool true)], g.2.1)) (fun g => sets.length + n - g.1) (fr, h, q) ⟨⟨Nat.le_refl _, hfr⟩, Ext.refl _ _, hq, ha, Rat.le_refl, fun k t h1 h2 => absurd h2 (Nat.not_lt.2 h1)⟩ (by simp (maxSteps := 2000000) only [↓Za, ↓Zk, ↓Zs, ↓Ze, ↓Zj, ↓Zt, ↓Zg, ↓Zm, ↓Zf, ↓Zc, ↓Zb, ↓vdn, vup, Zo, Zh, Zi, Zn, Zl, List.map_cons, List.map_nil, cond_true, cond_false, aop, Zw, Zr, Zp, ev, sput, Zu, Zz, Yb, unK, Zd, Zx, Nat.reduceBEq, Nat.reduceAdd, Int.reduceBEq, Int.reduceBNe, Int.reduceLT, Zv, Ya, tup, tyf]) rfl ?_
    rintro ⟨k, H, qk⟩ ⟨⟨hk1, hk2⟩, hE, hqk, hak, hle, hno⟩
    simp only at hk1 hk2 hE hqk hak hle hno
    refine Yg fun Q2 hQ2 => ?_
    simp only [l85_0]
    have hkH : KG h0 pb H := hk.trans hE
    obtain ⟨r1, r2⟩ := ge.rows H hkH
    have hrl : rws.length = sets.length + n := r2.len.trans (by simp)
    by_cases hkin : (k : Int) < ((sets.length + n : Nat) : Int)
    · have hk' : k < sets.length + n := by omega
      have hkW : k < rws.length := by omega
      refine Yf fun A hA => ?_
      refine Yc fun N3 hN3 => ?_
      simp (maxSteps := 2000000) only [s85, ↓Za, ↓Zk, ↓Zs, ↓Ze, ↓Zj, ↓Zt, ↓Zg, ↓Zm, ↓Zf, ↓Zc, ↓Zb, ↓vdn, vup, Zo, Zh, Zi, Zn, Zl, List.map_cons, List.map_nil, cond_true, cond_false, aop, Zw, Zr, Zp, ev, sput, Zu, Zz, Yb, unK, Zd, Zx, Nat.reduceBEq, Nat.reduceAdd, Int.reduceBEq, Int.reduceBNe, Int.reduceLT, Zv, Ya, tup, tyf, Wz (hkH.at_ ge.rb ge.fr) shp_82, r1.len, hrl, hkin]
      refine hN3 [(0, Zy (fr : Nat)), (1, v), (2, .pointer (some ⟨pn, 0, none⟩)), (3, .pointer (some ⟨pr, 0, none⟩)), (4, .pointer (some ⟨pg, 0, none⟩)), (5, .pointer (some ⟨ps, 0, none⟩)), (6, .pointer (some ⟨pb, 0, none⟩)), (9, Zy (k : Nat)), (25, .bool true), (30, .bool true)] _ _ ?_ (by simp (maxSteps := 2000000) only [↓Za, ↓Zk, ↓Zs, ↓Ze, ↓Zj, ↓Zt, ↓Zg, ↓Zm, ↓Zf, ↓Zc, ↓Zb, ↓vdn, vup, Zo, Zh, Zi, Zn, Zl, List.map_cons, List.map_nil, cond_true, cond_false, aop, Zw, Zr, Zp, ev, sput, Zu, Zz, Yb, unK, Zd, Zx, Nat.reduceBEq, Nat.reduceAdd, Int.reduceBEq, Int.reduceBNe, Int.reduceLT, Zv, Ya, tup, tyf])
      clear hN3
      try clear N3
      refine Xm rfl ?_
      refine Ye ?_
      simp (maxSteps := 2000000) only [s85, ↓Za, ↓Zk, ↓Zs, ↓Ze, ↓Zj, ↓Zt, ↓Zg, ↓Zm, ↓Zf, ↓Zc, ↓Zb, ↓vdn, vup, Zo, Zh, Zi, Zn, Zl, List.map_cons, List.map_nil, cond_true, cond_false, aop, Zw, Zr, Zp, ev, sput, Zu, Zz, Yb, unK, Zd, Zx, Nat.reduceBEq, Nat.reduceAdd, Int.reduceBEq, Int.reduceBNe, Int.reduceLT, Zv, Ya, tup, tyf]
      refine hA [(0, Zy (fr : Nat)), (1, v), (2, .pointer (some ⟨pn, 0, none⟩)), (3, .pointer (some ⟨pr, 0, none⟩)), (4, .pointer (some ⟨pg, 0, none⟩)), (5, .pointer (some ⟨ps, 0, none⟩)), (6, .pointer (some ⟨pb, 0, none⟩)), (9, Zy (k : Nat)), (25, .bool true)] _ _ ?_ (by simp (maxSteps := 2000000) only [↓Za, ↓Zk, ↓Zs, ↓Ze, ↓Zj, ↓Zt, ↓Zg, ↓Zm, ↓Zf, ↓Zc, ↓Zb, ↓vdn, vup, Zo, Zh, Zi, Zn, Zl, List.map_cons, List.map_nil, cond_true, cond_false, aop, Zw, Zr, Zp, ev, sput, Zu, Zz, Yb, unK, Zd, Zx, Nat.reduceBEq, Nat.reduceAdd, Int.reduceBEq, Int.reduceBNe, Int.reduceLT, Zv, Ya, tup, tyf])
      clear hA
      try clear A
      refine Yf fun Y hY => ?_
      refine Ym ?_
      refine Ye ?_
      simp only [q85_4]
      have hgH := hkH.at_ ge.gb ge.fg
      obtain ⟨gf, hgf⟩ : ∃ z : Value, z = .func (.func 85) #[] #[.pointer (some ⟨pn, 0, none⟩), .pointer (some ⟨pr, 0, none⟩), .pointer (some ⟨pg, 0, none⟩), .pointer (some ⟨ps, 0, none⟩), .pointer (some ⟨pb, 0, none⟩)] := ⟨_, rfl⟩
      rw [← hgf] at hgH
      have hoH : OwnV 22 H v (B.map fun k => rws.getD k undef) := ho.same fun b hb => hE.2 b (ho.lt hb) fun hc => by
        obtain ⟨c, hc'⟩ := ho.blk hb
        rw [hc, hq] at hc'; cases hc'
      obtain ⟨w, hw⟩ : ∃ w, w = rws.getD k undef := ⟨_, rfl⟩
      have hwI : IntSl H w (rowI n sets k) := hw ▸ ge.row hkH hk'
      have hld : ∀ {K : Value → Prop}, Xs prog H 22 (Wq rv 1 k) K = K w := fun {K} => by rw [r1.load shp_22 hkW, hw]
      refine aw_drawR (fun z => z[pg]? = some (.cells [gf] 83 false)) [(0, 5), (15, 4)] (by kernel_rfl) (by kernel_rfl) (by kernel_rfl) (by kernel_rfl) hgH ?_
      simp (maxSteps := 2000000) only [s85, ↓Za, ↓Zk, ↓Zs, ↓Ze, ↓Zj, ↓Zt, ↓Zg, ↓Zm, ↓Zf, ↓Zc, ↓Zb, ↓vdn, vup, Zo, Zh, Zi, Zn, Zl, List.map_cons, List.map_nil, cond_true, cond_false, aop, Zw, Zr, Zp, ev, sput, Zu, Zz, Yb, unK, Zd, Zx, Nat.reduceBEq, Nat.reduceAdd, Int.reduceBEq, Int.reduceBNe, Int.reduceLT, Zv, Ya, tup, tyf, Nat.reduceLT, Bool.false_or, Bool.true_or]
      refine ⟨gf, fun hp hhp => by simp only [Wz hhp shp_83], ?_⟩
      simp (maxSteps := 2000000) only [s85, ↓Za, ↓Zk, ↓Zs, ↓Ze, ↓Zj, ↓Zt, ↓Zg, ↓Zm, ↓Zf, ↓Zc, ↓Zb, ↓vdn, vup, Zo, Zh, Zi, Zn, Zl, List.map_cons, List.map_nil, cond_true, cond_false, aop, Zw, Zr, Zp, ev, sput, Zu, Zz, Yb, unK, Zd, Zx, Nat.reduceBEq, Nat.reduceAdd, Int.reduceBEq, Int.reduceBNe, Int.reduceLT, Zv, Ya, tup, tyf, Nat.reduceLT, Bool.false_or, Bool.true_or, add1 (show k < 9223372036854775807 by omega), hoH.val.len, Option.map_some, Option.map_none]
      refine hoH.cap el_84 esz_22 fun cv hcv => ?_
      simp (maxSteps := 2000000) only [s85, ↓Za, ↓Zk, ↓Zs, ↓Ze, ↓Zj, ↓Zt, ↓Zg, ↓Zm, ↓Zf, ↓Zc, ↓Zb, ↓vdn, vup, Zo, Zh, Zi, Zn, Zl, List.map_cons, List.map_nil, cond_true, cond_false, aop, Zw, Zr, Zp, ev, sput, Zu, Zz, Yb, unK, Zd, Zx, Nat.reduceBEq, Nat.reduceAdd, Int.reduceBEq, Int.reduceBNe, Int.reduceLT, Zv, Ya, tup, tyf, Nat.reduceLT, Bool.false_or, Bool.true_or, Wz (hkH.at_ ge.rb ge.fr) shp_82, r1.idx el_82 esz_22 hkW, hld, List.toList_toArray, buildSlW el_84 zero_22 esz_22 hwI]
      refine ⟨Vd hgH _, ?_⟩
      have hval : ValSl (H ++ [Blk.cells [w] 22 false]) (.slice (some ⟨H.length, 0, none⟩) 1 1) [w] := .inr ⟨H.length, 0, none, 1, [w], 22, false, rfl, Nat.le_refl _, by simp [view, Blk.view], rfl⟩
      have hmapw : (B ++ [k]).map (fun k => rws.getD k undef) = B.map (fun k => rws.getD k undef) ++ [w] := by rw [List.map_append, hw]; rfl
      have hBm' : ∀ j ∈ B ++ [k], j < sets.length + n := fun j hj => by
        rcases List.mem_append.1 hj with hj | hj
        · exact hBm j hj
        · rw [List.mem_singleton.1 hj]; exact hk'
      refine (hcv.ext (Ext.app _ _ _)).app app_84_84 hval (by simp) (fun z hz => by
        rw [← hmapw, List.mem_map] at hz
        obtain ⟨j, hj, rfl⟩ := hz
        exact intSl_notI (ge.row hkH (hBm' j hj))) (by rw [hml]; simp only [List.length_singleton]; omega) fun nv hnv => ?_
      rw [← hmapw] at hnv ⊢
      obtain ⟨G, hG⟩ : ∃ G, G = H ++ [Blk.cells [w] 22 false] ++ [Blk.cells ((B ++ [k]).map fun k => rws.getD k undef) 22 false] := ⟨_, rfl⟩
      rw [← hG] at hnv ⊢
      have hEHG : Ext (fun _ => False) H G := by rw [hG]; simp only [List.append_assoc]; exact Ext.app _ _ _
      have hgG : G[pg]? = some (.cells [gf] 83 false) := (hEHG.2 _ (Yx hgH) id).trans hgH
      have hqG : G[pb]? = some (bC qk) := (hEHG.2 _ (Yx hqk) id).trans hqk
      have hEG : Ext (fun b => b = pb) h G := hE.trans (hEHG.mono fun _ h => h.elim)
      refine ⟨hgG, ?_⟩
      rw [hgf]
      simp (maxSteps := 2000000) only [s85, ↓Za, ↓Zk, ↓Zs, ↓Ze, ↓Zj, ↓Zt, ↓Zg, ↓Zm, ↓Zf, ↓Zc, ↓Zb, ↓vdn, vup, Zo, Zh, Zi, Zn, Zl, List.map_cons, List.map_nil, cond_true, cond_false, aop, Zw, Zr, Zp, ev, sput, Zu, Zz, Yb, unK, Zd, Zx, Nat.reduceBEq, Nat.reduceAdd, Int.reduceBEq, Int.reduceBNe, Int.reduceLT, Zv, Ya, tup, tyf, Nat.reduceLT, Bool.false_or, Bool.true_or, Yv, List.nil_append, List.append_nil, List.toList_toArray, List.cons_append]
      refine (ih (k + 1) (B ++ [k]) G nv qk (by rw [List.length_append, List.length_singleton]; omega) (hk.trans hEG) hnv hBm' hk' hqG hak).mono ?_
      rintro r G2 ⟨hE2, q2, hb2, ha2, hle2, hc2⟩
      refine ⟨by have := (hE2.2 _ (Yx hgG) ge.fg).trans hgG; rw [hgf] at this; exact this, ?_⟩
      refine hY [(0, Zy (fr : Nat)), (1, v), (2, .pointer (some ⟨pn, 0, none⟩)), (3, .pointer (some ⟨pr, 0, none⟩)), (4, .pointer (some ⟨pg, 0, none⟩)), (5, .pointer (some ⟨ps, 0, none⟩)), (6, .pointer (some ⟨pb, 0, none⟩)), (9, Zy (k : Nat)), (25, .bool true)] _ _ ?_ (by simp (maxSteps := 2000000) only [↓Za, ↓Zk, ↓Zs, ↓Ze, ↓Zj, ↓Zt, ↓Zg, ↓Zm, ↓Zf, ↓Zc, ↓Zb, ↓vdn, vup, Zo, Zh, Zi, Zn, Zl, List.map_cons, List.map_nil, cond_true, cond_false, aop, Zw, Zr, Zp, ev, sput, Zu, Zz, Yb, unK, Zd, Zx, Nat.reduceBEq, Nat.reduceAdd, Int.reduceBEq, Int.reduceBNe, Int.reduceLT, Zv, Ya, tup, tyf])
      clear hY
      try clear Y
      refine Ye ?_
      simp (maxSteps := 2000000) only [s85, ↓Za, ↓Zk, ↓Zs, ↓Ze, ↓Zj, ↓Zt, ↓Zg, ↓Zm, ↓Zf, ↓Zc, ↓Zb, ↓vdn, vup, Zo, Zh, Zi, Zn, Zl, List.map_cons, List.map_nil, cond_true, cond_false, aop, Zw, Zr, Zp, ev, sput, Zu, Zz, Yb, unK, Zd, Zx, Nat.reduceBEq, Nat.reduceAdd, Int.reduceBEq, Int.reduceBNe, Int.reduceLT, Zv, Ya, tup, tyf, add1 (show k < 9223372036854775807 by omega)]
      refine hQ2 _ _ _ ⟨(k + 1, G2, q2), ⟨⟨by simp only; omega, hk'⟩, hEG.trans hE2, hb2, ha2, Rat.le_trans hle hle2, fun k' t h1 h2 h3 h4 x hx => ?_⟩, by simp only; omega, by simp (maxSteps := 2000000) only [↓Za, ↓Zk, ↓Zs, ↓Ze, ↓Zj, ↓Zt, ↓Zg, ↓Zm, ↓Zf, ↓Zc, ↓Zb, ↓vdn, vup, Zo, Zh, Zi, Zn, Zl, List.map_cons, List.map_nil, cond_true, cond_false, aop, Zw, Zr, Zp, ev, sput, Zu, Zz, Yb, unK, Zd, Zx, Nat.reduceBEq, Nat.reduceAdd, Int.reduceBEq, Int.reduceBNe, Int.reduceLT, Zv, Ya, tup, tyf], rfl⟩
      simp only at h2
      by_cases hkk : k' = k
      · subst hkk
        exact hc2 t h3 h4 x (by rw [List.append_assoc]; exact hx)
      · exact Rat.le_trans (hno k' t h1 (by omega) h3 h4 x hx) hle2
    obtain rfl : k = sets.length + n := by omega
    refine Yf fun A hA => ?_
    refine Yc fun N4 hN4 => ?_
    simp (maxSteps := 2000000) only [s85, ↓Za, ↓Zk, ↓Zs, ↓Ze, ↓Zj, ↓Zt, ↓Zg, ↓Zm, ↓Zf, ↓Zc, ↓Zb, ↓vdn, vup, Zo, Zh, Zi, Zn, Zl, List.map_cons, List.map_nil, cond_true, cond_false, aop, Zw, Zr, Zp, ev, sput, Zu, Zz, Yb, unK, Zd, Zx, Nat.reduceBEq, Nat.reduceAdd, Int.reduceBEq, Int.reduceBNe, Int.reduceLT, Zv, Ya, tup, tyf, Wz (hkH.at_ ge.rb ge.fr) shp_82, r1.len, hrl, hkin]
    refine hN4 [(0, Zy (fr : Nat)), (1, v), (2, .pointer (some ⟨pn, 0, none⟩)), (3, .pointer (some ⟨pr, 0, none⟩)), (4, .pointer (some ⟨pg, 0, none⟩)), (5, .pointer (some ⟨ps, 0, none⟩)), (6, .pointer (some ⟨pb, 0, none⟩)), (9, Zy (sets.length + n : Nat)), (25, .bool true), (30, .bool false)] _ _ ?_ (by simp (maxSteps := 2000000) only [↓Za, ↓Zk, ↓Zs, ↓Ze, ↓Zj, ↓Zt, ↓Zg, ↓Zm, ↓Zf, ↓Zc, ↓Zb, ↓vdn, vup, Zo, Zh, Zi, Zn, Zl, List.map_cons, List.map_nil, cond_true, cond_false, aop, Zw, Zr, Zp, ev, sput, Zu, Zz, Yb, unK, Zd, Zx, Nat.reduceBEq, Nat.reduceAdd, Int.reduceBEq, Int.reduceBNe, Int.reduceLT, Zv, Ya, tup, tyf])
    clear hN4
    try clear N4
    refine Yy rfl ?_
    refine Ye ?_
    simp (maxSteps := 2000000) only [s85, ↓Za, ↓Zk, ↓Zs, ↓Ze, ↓Zj, ↓Zt, ↓Zg, ↓Zm, ↓Zf, ↓Zc, ↓Zb, ↓vdn, vup, Zo, Zh, Zi, Zn, Zl, List.map_cons, List.map_nil, cond_true, cond_false, aop, Zw, Zr, Zp, ev, sput, Zu, Zz, Yb, unK, Zd, Zx, Nat.reduceBEq, Nat.reduceAdd, Int.reduceBEq, Int.reduceBNe, Int.reduceLT, Zv, Ya, tup, tyf]
    refine hQ2 _ _ _ (hQ _ _ _ ?_)
    simp (maxSteps := 2000000) only [s85, ↓Za, ↓Zk, ↓Zs, ↓Ze, ↓Zj, ↓Zt, ↓Zg, ↓Zm, ↓Zf, ↓Zc, ↓Zb, ↓vdn, vup, Zo, Zh, Zi, Zn, Zl, List.map_cons, List.map_nil, cond_true, cond_false, aop, Zw, Zr, Zp, ev, sput, Zu, Zz, Yb, unK, Zd, Zx, Nat.reduceBEq, Nat.reduceAdd, Int.reduceBEq, Int.reduceBNe, Int.reduceLT, Zv, Ya, tup, tyf, if_true]
    refine hZ [(0, Zy (fr : Nat)), (1, v), (2, .pointer (some ⟨pn, 0, none⟩)), (3, .pointer (some ⟨pr, 0, none⟩)), (4, .pointer (some ⟨pg, 0, none⟩)), (5, .pointer (some ⟨ps, 0, none⟩)), (6, .pointer (some ⟨pb, 0, none⟩))] _ _ ?_ (by simp (maxSteps := 2000000) only [↓Za, ↓Zk, ↓Zs, ↓Ze, ↓Zj, ↓Zt, ↓Zg, ↓Zm, ↓Zf, ↓Zc, ↓Zb, ↓vdn, vup, Zo, Zh, Zi, Zn, Zl, List.map_cons, List.map_nil, cond_true, cond_false, aop, Zw, Zr, Zp, ev, sput, Zu, Zz, Yb, unK, Zd, Zx, Nat.reduceBEq, Nat.reduceAdd, Int.reduceBEq, Int.reduceBNe, Int.reduceLT, Zv, Ya, tup, tyf])
    clear hZ
    try clear Z
    refine Ye ?_
    simp (maxSteps := 2000000) only [s85, ↓Za, ↓Zk, ↓Zs, ↓Ze, ↓Zj, ↓Zt, ↓Zg, ↓Zm, ↓Zf, ↓Zc, ↓Zb, ↓vdn, vup, Zo, Zh, Zi, Zn, Zl, List.map_cons, List.map_nil, cond_true, cond_false, aop, Zw, Zr, Zp, ev, sput, Zu, Zz, Yb, unK, Zd, Zx, Nat.reduceBEq, Nat.reduceAdd, Int.reduceBEq, Int.reduceBNe, Int.reduceLT, Zv, Ya, tup, tyf]
    refine ⟨hE, qk, hqk, hak, hle, fun t ht htl x hx => ?_⟩
    cases t with
    | nil => cases htl
    | cons k t =>
      obtain ⟨h1, h2, h3⟩ := sub_cons ht
      rw [show fr + (sets.length + n - fr) = sets.length + n by omega] at h2 h3
      exact hno k t h1 h2 h3 (by simpa using htl) x hx
end Go.Proofs.Tryd.Am

namespace Bq
open Go.Am

def withinB (sets : List Nat) (s : Nat) : Bool := sets.any fun t => decide (s ≠ t) && decide (less s t = 0)
def keepL (sets : List Nat) : List Nat := sets.filter fun s => !withinB sets s
theorem less_sub {a b : Nat} : less a b = 0 ↔ ∀ k, a.testBit k = true → b.testBit k = true := by
  constructor
  · intro h k hk
    have := Yn a b k
    rw [h, Nat.zero_testBit, hk] at this
    simpa using this.symm
  · intro h
    refine Nat.eq_of_testBit_eq fun k => ?_
    rw [Yn, Nat.zero_testBit]
    cases hk : a.testBit k with
    | false => rfl
    | true => rw [h k hk]; rfl
theorem sub_le {a b : Nat} (h : less a b = 0) : a ≤ b := by
  have h1 : a &&& b = a := Nat.eq_of_testBit_eq fun k => by
    rw [Nat.testBit_and]
    cases hk : a.testBit k with
    | false => rfl
    | true => rw [less_sub.1 h k hk]; rfl
  rw [← h1]; exact Nat.and_le_right
theorem kept_over {sets : List Nat} {M : Nat} (hM : ∀ s ∈ sets, s < M) : ∀ (d s : Nat), M - s ≤ d → s ∈ sets → ∃ t ∈ keepL sets, less s t = 0 := by
  intro d
  induction d with
  | zero => intro s hd hs; have := hM s hs; omega
  | succ d ih =>
    intro s hd hs
    cases hw : withinB sets s with
    | false => exact ⟨s, List.mem_filter.2 ⟨hs, by rw [hw]; rfl⟩, less_sub.2 fun k h => h⟩
    | true =>
      obtain ⟨t, ht, h2⟩ := List.any_eq_true.1 hw
      rw [Bool.and_eq_true, decide_eq_true_eq, decide_eq_true_eq] at h2
      have h3 := sub_le h2.2
      have h4 := hM t ht
      obtain ⟨u, hu, h5⟩ := ih t (by omega) ht
      exact ⟨u, hu, less_sub.2 fun k hk => less_sub.1 h5 k (less_sub.1 h2.2 k hk)⟩
theorem feas_keep {n : Nat} {sets : List Nat} {x : Nat → Rat} : PFeas n (keepL sets) x ↔ PFeas n sets x := by
  constructor
  · intro h
    refine ⟨h.nn, fun s hs => ?_⟩
    obtain ⟨M, hM⟩ : ∃ M, ∀ s ∈ sets, s < M := by
      clear h hs
      induction sets with
      | nil => exact ⟨0, fun s h => by cases h⟩
      | cons a l ih =>
        obtain ⟨M, hM⟩ := ih
        refine ⟨max M (a + 1), fun s hs => ?_⟩
        rcases List.mem_cons.1 hs with rfl | hs
        · omega
        · have := hM s hs; omega
    obtain ⟨t, ht, hst⟩ := kept_over hM _ s (Nat.le_refl _) hs
    refine Rat.le_trans (sumTo_le fun i hi => ?_) (h.le t ht)
    refine Rat.mul_le_mul_of_nonneg_right ?_ (h.nn i hi)
    rw [bitQ, bitQ]
    by_cases hb : s.testBit i = true
    · rw [if_pos hb, if_pos (less_sub.1 hst i hb)]; exact Rat.le_refl
    · rw [if_neg hb]; split <;> decide
  · intro h
    exact ⟨h.nn, fun s hs => h.le s (List.mem_filter.1 hs).1⟩
theorem opt_keep {n : Nat} {sets : List Nat} {q : Rat} (h : IsOpt n (keepL sets) q) : IsOpt n sets q := by
  obtain ⟨⟨x, hx, e⟩, h2⟩ := h
  exact ⟨⟨x, feas_keep.1 hx, e⟩, fun x hx => h2 x (feas_keep.2 hx)⟩
theorem keep_cover {n : Nat} {sets : List Nat} (hM : ∀ s ∈ sets, s < 2 ^ n) (hc : ∀ i, i < n → ∃ s ∈ sets, s.testBit i = true) : ∀ i, i < n → ∃ s ∈ keepL sets, s.testBit i = true := fun i hi => by
  obtain ⟨s, hs, hb⟩ := hc i hi
  obtain ⟨t, ht, h⟩ := kept_over hM _ s (Nat.le_refl _) hs
  exact ⟨t, ht, less_sub.1 h i hb⟩
end Bq

/-
  sure: sets within others.
  sure: a corner as the program tries it. Plain Lean, no program.
  sure: the corners, one after another.
  sure: the corners, one after another: the whole walk.
  sure: sets within others bound nothing more. Plain Lean, no program.
-/
import Derived.Test.YtaagkbbphgdcdaaDoorPk7
import Derived.Test.YtaagkbbphgdcdaaDoorPk3
set_option linter.all false
namespace Go.Proofs.Tryd.Am
open Go.Am
set_option maxRecDepth 100000
set_option maxHeartbeats 4000000

def idxF (p : Int → Bool) (xs : List Int) : Int := if xs.any p then ((xs.findIdx p : Nat) : Int) else -1
theorem s98_callW [Tabs Tryd.prog] {args : List Value} {h : Zh} {Q : Value → Zh → Prop} (hsz : args.length ≤ 19) (hk : AWS Tryd.prog 19 s98 (Zr Tryd.prog [.tmp 4] Q) (Zp 0 args) h) : ACall Tryd.prog 98 args h Q :=
  Xb Tryd.func98 rfl (enters_of Tryd.func98 (by kernel_rfl) rfl) rfl rfl (by decide) s98_strip s98_ok hsz hk
theorem index_call [Tabs prog] {h : Zh} {v : Value} {xs : List Int} {g : FuncId} {caps : Array Value} {p : Int → Bool} (hv : IntSl h v xs) (hl : xs.length < 9223372036854775807) (hp : ∀ x ∈ xs, APure prog g (Zd x :: caps.toList) h (.bool (p x))) :
    APure prog 98 [v, .func (.func g) #[] caps] h (Zd (idxF p xs)) := by
  refine s98_callW (by simp) ?_
  simp only [s98]
  refine Zg fun N1 hN1 => ?_
  simp (maxSteps := 2000000) only [↓Za, ↓Zb, ↓Zc, vup, cond_false, aop, Zf, Zp, ev, sput, Ze, Nat.reduceBEq, Nat.reduceAdd]
  refine hN1 [(0, v), (1, .func (.func g) #[] caps), (4, .int .i64 0)] _ _ ?_ (by simp (maxSteps := 2000000) only [vup, cond_true, cond_false, Nat.reduceBEq])
  clear hN1
  try clear N1
  refine Zo fun Z hZ => ?_
  refine Zg fun N2 hN2 => ?_
  simp (maxSteps := 2000000) only [↓Za, ↓Zb, ↓Zc, vup, List.map_cons, List.map_nil, cond_true, cond_false, aop, Zf, ev, sput, Ze, Zj, Nat.reduceBEq, tyf, hv.len]
  refine hN2 [(0, v), (1, .func (.func g) #[] caps), (4, .int .i64 0), (6, v), (7, Zd xs.length), (8, .int .i64 0)] _ _ ?_ (by simp (maxSteps := 2000000) only [vup, cond_true, cond_false, Nat.reduceBEq])
  clear hN2
  try clear N2
  refine Zv ?_
  refine Zn fun Q hQ => ?_
  refine Yx (γ := Nat) (fun i => i ≤ xs.length ∧ ∀ j, j < i → p (xs.getD j 0) = false) (fun i => ([(0, v), (1, .func (.func g) #[] caps), (4, .int .i64 0), (6, v), (7, Zd xs.length), (8, Zd (i : Nat))], h)) (fun i => xs.length - i) 0 ⟨Nat.zero_le _, fun j hj => absurd hj (Nat.not_lt_zero j)⟩ (by simp (maxSteps := 2000000) only [vup, cond_true, cond_false, Nat.reduceBEq, Int.natCast_zero]) rfl ?_
  rintro i ⟨hi, hno⟩
  refine Zn fun Q2 hQ2 => ?_
  simp only [l98_0]
  by_cases hin : (i : Int) < xs.length
  · have hi' : i < xs.length := by omega
    have hx : xs.getD i 0 ∈ xs := by rw [List.getD, List.getElem?_eq_getElem hi']; exact List.getElem_mem hi'
    have hxe : xs.getD i 0 = xs[i] := by rw [List.getD, List.getElem?_eq_getElem hi']; rfl
    refine Zg fun N3 hN3 => ?_
    simp (maxSteps := 2000000) only [↓Za, ↓Zb, ↓Zc, vup, cond_true, cond_false, aop, Zf, ev, sput, Ze, Zw, Zy, Nat.reduceBEq, hin]
    refine hN3 [(0, v), (1, .func (.func g) #[] caps), (4, .int .i64 0), (6, v), (7, Zd xs.length), (8, Zd (i : Nat)), (9, .bool true)] _ _ ?_ (by simp (maxSteps := 2000000) only [vup, cond_true, cond_false, Nat.reduceBEq])
    clear hN3
    try clear N3
    refine Zg fun N4 hN4 => ?_
    simp (maxSteps := 2000000) only [↓Zk, ↓vdn, vup, cond_true, cond_false, Zf, ev, Nat.reduceBEq]
    refine hN4 [(0, v), (1, .func (.func g) #[] caps), (4, .int .i64 0), (6, v), (7, Zd xs.length), (8, Zd (i : Nat))] _ _ ?_ (by simp (maxSteps := 2000000) only [vup, cond_true, cond_false, Nat.reduceBEq])
    clear hN4
    try clear N4
    refine Zo fun B hB => ?_
    refine Zv ?_
    refine Zg fun N5 hN5 => ?_
    simp (maxSteps := 2000000) only [↓Za, ↓Zb, ↓Zc, vup, cond_true, cond_false, aop, Zf, ev, sput, Ze, Nat.reduceBEq]
    refine hN5 [(0, v), (1, .func (.func g) #[] caps), (4, .int .i64 0), (5, Zd (i : Nat)), (6, v), (7, Zd xs.length), (8, Zd (i : Nat))] _ _ ?_ (by simp (maxSteps := 2000000) only [vup, cond_true, cond_false, Nat.reduceBEq])
    clear hN5
    try clear N5
    refine Zg fun N6 hN6 => ?_
    simp (maxSteps := 2000000) only [↓Za, ↓Zb, ↓Zc, vup, List.map_cons, List.map_nil, cond_true, cond_false, aop, Zf, ev, sput, Ze, Nat.reduceBEq, hv.idx Xh Yw hi', hv.load Yu hi', Ym, List.nil_append, List.cons_append]
    refine (hp _ hx).mono ?_
    rintro _ h ⟨rfl, rfl⟩
    refine hN6 [(0, v), (1, .func (.func g) #[] caps), (4, .int .i64 0), (5, Zd (i : Nat)), (6, v), (7, Zd xs.length), (8, Zd (i : Nat)), (16, .bool (p (xs.getD i 0)))] _ _ ?_ (by simp (maxSteps := 2000000) only [vup, cond_true, cond_false, Nat.reduceBEq])
    clear hN6
    try clear N6
    cases hpx : p (xs.getD i 0) with
    | false =>
      refine Yo rfl ?_
      refine Zm ?_
      simp (maxSteps := 2000000) only [↓Zk, Zf, Zl]
      refine hB [(0, v), (1, .func (.func g) #[] caps), (4, .int .i64 0), (6, v), (7, Zd xs.length), (8, Zd (i : Nat))] _ _ ?_ (by simp (maxSteps := 2000000) only [vup, cond_true, cond_false, Nat.reduceBEq])
      clear hB
      try clear B
      refine Zm ?_
      simp (maxSteps := 2000000) only [↓Za, ↓Zb, ↓Zc, vup, cond_true, cond_false, aop, ev, sput, Ze, Zw, Zy, Nat.reduceBEq, Wy (show i < 9223372036854775807 by omega)]
      exact hQ2 _ _ _ ⟨i + 1, ⟨hi', fun j hj => by
        by_cases hji : j = i
        · rw [hji]; exact hpx
        · exact hno j (by omega)⟩, by omega, by simp (maxSteps := 2000000) only [vup, cond_true, cond_false, Nat.reduceBEq], rfl⟩
    | true =>
      refine Xd rfl ?_
      refine Zm ?_
      simp (maxSteps := 2000000) only [↓Za, ↓Zi, ↓Zu, ↓Zb, ↓Zc, vup, cond_true, cond_false, aop, Zf, Zl, ev, sput, Ze, Nat.reduceBEq]
      refine hQ2 _ _ _ (hQ _ _ _ ?_)
      simp (maxSteps := 2000000) only [vup, cond_true, cond_false, Zf, Zl, Nat.reduceBEq, Zr, Xg, tup]
      have hany : xs.any p = true := List.any_eq_true.2 ⟨_, hx, hpx⟩
      have hfi : xs.findIdx p = i := by
        rw [List.findIdx_eq hi']
        refine ⟨by rw [← hxe]; exact hpx, fun j hj => ?_⟩
        have := hno j hj
        rw [List.getD, List.getElem?_eq_getElem (by omega)] at this
        exact this
      rw [idxF, if_pos hany, hfi]
  obtain rfl : i = xs.length := by omega
  refine Zg fun N7 hN7 => ?_
  simp (maxSteps := 2000000) only [↓Za, ↓Zb, ↓Zc, vup, cond_true, cond_false, aop, Zf, ev, sput, Ze, Zw, Zy, Nat.reduceBEq, hin]
  refine hN7 [(0, v), (1, .func (.func g) #[] caps), (4, .int .i64 0), (6, v), (7, Zd xs.length), (8, Zd xs.length), (9, .bool false)] _ _ ?_ (by simp (maxSteps := 2000000) only [vup, cond_true, cond_false, Nat.reduceBEq])
  clear hN7
  try clear N7
  refine Zg fun N8 hN8 => ?_
  simp (maxSteps := 2000000) only [↓Ye, ↓vdn, vup, cond_true, cond_false, Zf, ev, Nat.reduceBEq]
  refine hQ2 _ _ _ (hQ _ _ _ ?_)
  simp (maxSteps := 2000000) only [Zf, Zl, Zr, if_true]
  refine hZ [(0, v), (1, .func (.func g) #[] caps), (4, .int .i64 0)] _ _ ?_ (by simp (maxSteps := 2000000) only [vup, cond_true, cond_false, Nat.reduceBEq])
  clear hZ
  try clear Z
  refine Zm ?_
  simp (maxSteps := 2000000) only [↓Za, ↓Zi, ↓Zu, ↓Zb, ↓Zc, vup, cond_true, cond_false, aop, Zf, ev, sput, Ze, Nat.reduceBEq, Zr, Xg, tup]
  have hany : xs.any p = false := by
    rw [List.any_eq_false]
    intro x hx
    obtain ⟨j, hj, rfl⟩ := List.mem_iff_getElem.1 hx
    have := hno j hj
    rw [List.getD, List.getElem?_eq_getElem hj] at this
    rw [show p xs[j] = false from this]; decide
  rw [idxF, hany]
  rfl
theorem idxF_ge (p : Int → Bool) (xs : List Int) : decide (idxF p xs ≥ 0) = xs.any p := by
  rw [idxF]
  cases xs.any p with
  | true => rw [if_pos rfl]; simp
  | false => rfl
theorem s83_callW [Tabs Tryd.prog] {args : List Value} {h : Zh} {Q : Value → Zh → Prop} (hsz : args.length ≤ 9) (hk : AWS Tryd.prog 9 s83 (Zr Tryd.prog [.tmp 4] Q) (Zp 0 args) h) : ACall Tryd.prog 83 args h Q :=
  Xb Tryd.func83 rfl (enters_of Tryd.func83 (by kernel_rfl) rfl) rfl rfl (by decide) s83_strip s83_ok hsz hk
theorem containsF_call [Tabs prog] {h : Zh} {v : Value} {xs : List Int} {g : FuncId} {caps : Array Value} {p : Int → Bool} (hv : IntSl h v xs) (hl : xs.length < 9223372036854775807) (hp : ∀ x ∈ xs, APure prog g (Zd x :: caps.toList) h (.bool (p x))) :
    APure prog 83 [v, .func (.func g) #[] caps] h (.bool (xs.any p)) := by
  refine s83_callW (by simp) ?_
  simp only [s83]
  refine Zg fun N9 hN9 => ?_
  simp (maxSteps := 2000000) only [↓Za, ↓Zb, ↓Zc, vup, cond_false, aop, Zf, Zp, ev, sput, Ze, Nat.reduceBEq, Nat.reduceAdd]
  refine hN9 [(0, v), (1, .func (.func g) #[] caps), (4, .bool false)] _ _ ?_ (by simp (maxSteps := 2000000) only [vup, cond_true, cond_false, Nat.reduceBEq])
  clear hN9
  try clear N9
  refine Zm ?_
  simp (maxSteps := 2000000) only [↓Za, ↓Zi, ↓Zu, ↓Zb, ↓Zc, vup, List.map_cons, List.map_nil, cond_true, cond_false, aop, Zf, ev, sput, Ze, Zw, Zy, Nat.reduceBEq, Zr, Xg, tup, tyf, Ym, List.nil_append, List.append_nil]
  refine (index_call hv hl hp).mono ?_
  rintro _ h ⟨rfl, rfl⟩
  simp (maxSteps := 2000000) only [vup]
  rw [← idxF_ge]
def inB (s : Nat) (t : Int) : Bool := decide ((s : Int) ≠ t) && decide (less s t.toNat = 0)
theorem in_call [Tabs prog] {h : Zh} {b s t : Nat} (hb : h[b]? = some (.cells [Zd s] 3 false)) (hs : s < 9223372036854775808) (ht : t < 9223372036854775808) : APure prog 84 [Zd t, .pointer (some ⟨b, 0, none⟩)] h (.bool (inB s t)) := by
  refine s84_call (by simp) ?_
  simp only [s84]
  have ha : We .andNot .i64 ((s : Nat) : Int) ((t : Nat) : Int) = ((less s t : Nat) : Int) := Wj hs ht
  by_cases hst : s = t
  · have hne : ((s : Int) != (t : Int)) = false := by simp [hst]
    simp (maxSteps := 2000000) only [↓Za, ↓Zi, ↓Zu, ↓Zb, ↓Zc, ↓vdn, vup, cond_true, cond_false, aop, Zf, Zp, ev, sput, Ze, Zw, Zy, Nat.reduceBEq, Nat.reduceAdd, Zr, Xg, tup, tyf, Wa hb Yu, hne]
    rw [inB, decide_eq_false (by rw [hst]; simp)]
    rfl
  · have hne : ((s : Int) != (t : Int)) = true := by rw [bne_iff_ne]; omega
    have heq : (((less s t : Nat) : Int) == 0) = decide (less s t = 0) := by rw [Bool.eq_iff_iff]; simp
    simp (maxSteps := 2000000) only [↓Za, ↓Zi, ↓Zu, ↓Zb, ↓Zc, ↓vdn, vup, cond_true, cond_false, aop, Zf, Zp, ev, sput, Ze, Zw, Zy, Nat.reduceBEq, Nat.reduceAdd, Zr, Xg, tup, tyf, Wa hb Yu, hne, ha, heq]
    rw [inB, decide_eq_true (show (s : Int) ≠ t by omega), Bool.true_and, Int.toNat_natCast]
theorem boxI {h : Zh} {x : Int} {K : Value → Zh → Prop} : boxK prog h 3 (Zd x) K = K (Xn h) (h ++ [.cells [Zd x] 3 false]) := by
  simp [boxK, Yw, Xn, cellsOf]
theorem s82_callW [Tabs Tryd.prog] {args : List Value} {h : Zh} {Q : Value → Zh → Prop} (hsz : args.length ≤ 7) (hk : AWS Tryd.prog 7 s82 (Zr Tryd.prog [.tmp 3] Q) (Zp 0 args) h) : ACall Tryd.prog 82 args h Q :=
  Xb Tryd.func82 rfl (enters_of Tryd.func82 (by kernel_rfl) rfl) rfl rfl (by decide) s82_strip s82_ok hsz hk
theorem sub_call [Tabs prog] {h : Zh} {b s : Nat} {sv : Value} {xs : List Int} (hb : h[b]? = some (.cells [sv] 22 false)) (hv : IntSl h sv xs) (hl : xs.length < 9223372036854775807) (hs : s < 9223372036854775808) (hx : ∀ x ∈ xs, ∃ t : Nat, x = t ∧ t < 9223372036854775808) :
    APure prog 82 [Zd s, .pointer (some ⟨b, 0, none⟩)] h (.bool (xs.any (inB s))) := by
  refine ACall.forget (.bool _) ?_
  have hE : Ext (fun _ => False) h (h ++ [Blk.cells [Zd s] 3 false]) := Ext.app _ _ _
  refine s82_callW (by simp) ?_
  simp only [s82]
  refine Zg fun N10 hN10 => ?_
  simp (maxSteps := 2000000) only [↓Za, ↓Zb, ↓Zc, vup, cond_true, cond_false, aop, Zf, Zp, ev, sput, Ze, Nat.reduceBEq, Nat.reduceAdd, boxI, Xn]
  refine hN10 [(0, Zd s), (1, .pointer (some ⟨b, 0, none⟩)), (2, .pointer (some ⟨h.length, 0, none⟩)), (3, .bool false)] _ _ ?_ (by simp (maxSteps := 2000000) only [vup, cond_true, cond_false, Nat.reduceBEq])
  clear hN10
  try clear N10
  refine Zm ?_
  simp (maxSteps := 2000000) only [↓Za, ↓Zi, ↓Zu, ↓Zb, ↓Zc, vup, List.map_cons, List.map_nil, cond_true, cond_false, aop, Zf, ev, sput, Ze, Nat.reduceBEq, Zr, Xg, tup, Wa (Va hb [Blk.cells [Zd s] 3 false]) Vb, List.map_toArray, Ym, List.nil_append, List.append_nil]
  refine (containsF_call (p := inB s) (hv.grow _) hl fun x hm => ?_).mono ?_
  · obtain ⟨t, rfl, ht⟩ := hx x hm
    exact in_call (Xa h (Blk.cells [Zd s] 3 false)) hs ht
  rintro _ _ ⟨rfl, rfl⟩
  simp (maxSteps := 2000000) only [vup]
  exact hE

def minT (xs : List Int) : Nat → Int
  | 0 => xs.getD 0 0
  | k + 1 => if xs.getD k 0 < minT xs k then xs.getD k 0 else minT xs k
theorem minT_neg {xs : List Int} (h0 : xs ≠ []) : minT xs xs.length < 0 ↔ ∃ x ∈ xs, x < 0 := by
  have hget : ∀ k, k < xs.length → xs.getD k 0 ∈ xs := fun k hk => by rw [List.getD, List.getElem?_eq_getElem hk]; exact List.getElem_mem hk
  have hpos := List.length_pos_iff.2 h0
  have h1 : ∀ k, k ≤ xs.length → minT xs k ∈ xs ∧ ∀ j, j < k → minT xs k ≤ xs.getD j 0 := by
    intro k
    induction k with
    | zero => intro _; exact ⟨hget 0 hpos, fun j hj => absurd hj (Nat.not_lt_zero j)⟩
    | succ k ih =>
      intro hk
      obtain ⟨i1, i2⟩ := ih (by omega)
      rw [minT]
      split
      · refine ⟨hget k (by omega), fun j hj => ?_⟩
        by_cases hjk : j = k
        · subst hjk; exact Int.le_refl _
        · have := i2 j (by omega); omega
      · refine ⟨i1, fun j hj => ?_⟩
        by_cases hjk : j = k
        · subst hjk; omega
        · exact i2 j (by omega)
  obtain ⟨i1, i2⟩ := h1 _ (Nat.le_refl _)
  constructor
  · intro h; exact ⟨_, i1, h⟩
  · rintro ⟨x, hx, hn⟩
    obtain ⟨j, hj, rfl⟩ := List.mem_iff_getElem.1 hx
    have := i2 j hj
    rw [List.getD, List.getElem?_eq_getElem hj, Option.getD_some] at this
    omega
theorem minT_one (xs : List Int) : minT xs 1 = xs.getD 0 0 := by
  simp [minT]
theorem s87_callW [Tabs Tryd.prog] {args : List Value} {h : Zh} {Q : Value → Zh → Prop} (hsz : args.length ≤ 25) (hk : AWS Tryd.prog 25 s87 (Zr Tryd.prog [.tmp 2] Q) (Zp 0 args) h) : ACall Tryd.prog 87 args h Q :=
  Xb Tryd.func87 rfl (enters_of Tryd.func87 (by kernel_rfl) rfl) rfl rfl (by decide) s87_strip s87_ok hsz hk
theorem min_call [Tabs prog] {h : Zh} {v : Value} {xs : List Int} (hv : IntSl h v xs) (h0 : xs ≠ []) (hl : xs.length < 9223372036854775807) : APure prog 87 [v] h (Zd (minT xs xs.length)) := by
  have hpos := List.length_pos_iff.2 h0
  refine s87_callW (by simp) ?_
  simp only [s87]
  refine Zg fun N11 hN11 => ?_
  simp (maxSteps := 2000000) only [↓Za, ↓Zb, ↓Zc, vup, cond_false, aop, Zf, Zp, ev, sput, Ze, Nat.reduceBEq]
  refine hN11 [(0, v), (2, .int .i64 0)] _ _ ?_ (by simp (maxSteps := 2000000) only [vup, cond_true, cond_false, Nat.reduceBEq])
  clear hN11
  try clear N11
  have hlt : ¬ ((xs.length : Int) < 1) := by omega
  refine Zo fun M hM => ?_
  refine Zg fun N12 hN12 => ?_
  simp (maxSteps := 2000000) only [↓Za, ↓Zb, ↓Zc, vup, List.map_cons, List.map_nil, cond_true, cond_false, aop, Zf, ev, sput, Ze, Zw, Zy, Zj, Nat.reduceBEq, tyf, hv.len, hlt]
  refine hN12 [(0, v), (2, .int .i64 0), (7, .bool false)] _ _ ?_ (by simp (maxSteps := 2000000) only [vup, cond_true, cond_false, Nat.reduceBEq])
  clear hN12
  try clear N12
  refine Yo rfl ?_
  refine Zm ?_
  simp (maxSteps := 2000000) only [↓Zk, Zf]
  refine hM [(0, v), (2, .int .i64 0)] _ _ ?_ (by simp (maxSteps := 2000000) only [vup, cond_true, cond_false, Nat.reduceBEq])
  clear hM
  try clear M
  have hi0 : ∀ K : Value → Prop, Yy prog 22 v (.int .i64 0) K = K (Wc v 1 0) := fun K => hv.idx (k := .i64) (i := 0) Xh Yw hpos K
  refine Zg fun N13 hN13 => ?_
  simp (maxSteps := 2000000) only [↓Za, ↓Zb, ↓Zc, vup, cond_true, cond_false, aop, Zf, ev, sput, Ze, Nat.reduceBEq, hi0, hv.load Yu hpos, ← minT_one]
  refine hN13 [(0, v), (2, .int .i64 0), (3, Zd (minT xs 1))] _ _ ?_ (by simp (maxSteps := 2000000) only [vup, cond_true, cond_false, Nat.reduceBEq])
  clear hN13
  try clear N13
  refine Zo fun Z hZ => ?_
  refine Zg fun N14 hN14 => ?_
  simp (maxSteps := 2000000) only [↓Za, ↓Zb, ↓Zc, vup, cond_false, aop, Zf, ev, sput, Ze, Nat.reduceBEq]
  refine hN14 [(0, v), (2, .int .i64 0), (3, Zd (minT xs 1)), (4, .int .i64 1)] _ _ ?_ (by simp (maxSteps := 2000000) only [vup, cond_true, cond_false, Nat.reduceBEq])
  clear hN14
  try clear N14
  refine Zv ?_
  refine Zn fun Q hQ => ?_
  refine Yx (γ := Nat) (fun k => 1 ≤ k ∧ k ≤ xs.length) (fun k => ([(0, v), (2, .int .i64 0), (3, Zd (minT xs k)), (4, Zd (k : Nat))], h)) (fun k => xs.length - k) 1 ⟨Nat.le_refl _, hpos⟩ (by simp (maxSteps := 2000000) only [vup, cond_true, cond_false, Nat.reduceBEq, Int.natCast_one]) rfl ?_
  rintro k ⟨hk1, hk⟩
  refine Zn fun Q2 hQ2 => ?_
  simp only [l87_0]
  by_cases hkin : (k : Int) < xs.length
  · have hk' : k < xs.length := by omega
    refine Zo fun A hA => ?_
    refine Zg fun N15 hN15 => ?_
    simp (maxSteps := 2000000) only [↓Za, ↓Zb, ↓Zc, vup, List.map_cons, List.map_nil, cond_true, cond_false, aop, Zf, ev, sput, Ze, Zw, Zy, Zj, Nat.reduceBEq, tyf, hv.len, hkin]
    refine hN15 [(0, v), (2, .int .i64 0), (3, Zd (minT xs k)), (4, Zd (k : Nat)), (15, .bool true)] _ _ ?_ (by simp (maxSteps := 2000000) only [vup, cond_true, cond_false, Nat.reduceBEq])
    clear hN15
    try clear N15
    refine Xd rfl ?_
    refine Zm ?_
    simp (maxSteps := 2000000) only [↓Zk, Zf]
    refine hA [(0, v), (2, .int .i64 0), (3, Zd (minT xs k)), (4, Zd (k : Nat))] _ _ ?_ (by simp (maxSteps := 2000000) only [vup, cond_true, cond_false, Nat.reduceBEq])
    clear hA
    try clear A
    refine Zo fun B hB => ?_
    refine Zv ?_
    refine Zm ?_
    simp (maxSteps := 2000000) only [↓Za, ↓Zb, ↓Zc, vup, List.map_cons, List.map_nil, cond_true, cond_false, aop, Zf, Zl, ev, sput, Ze, Zj, Nat.reduceBEq, hv.idx Xh Yw hk', hv.load Yu hk', mmK, if_false, Bool.false_eq_true, show (if xs.getD k 0 < minT xs k then xs.getD k 0 else minT xs k) = minT xs (k + 1) from rfl]
    refine hB [(0, v), (2, .int .i64 0), (3, Zd (minT xs (k + 1))), (4, Zd (k : Nat))] _ _ ?_ (by simp (maxSteps := 2000000) only [vup, cond_true, cond_false, Nat.reduceBEq])
    clear hB
    try clear B
    refine Zm ?_
    simp (maxSteps := 2000000) only [↓Za, ↓Zb, ↓Zc, vup, cond_true, cond_false, aop, ev, sput, Ze, Zw, Zy, Nat.reduceBEq, Wy (show k < 9223372036854775807 by omega)]
    exact hQ2 _ _ _ ⟨k + 1, ⟨by omega, hk'⟩, by omega, by simp (maxSteps := 2000000) only [vup, cond_true, cond_false, Nat.reduceBEq], rfl⟩
  obtain rfl : k = xs.length := by omega
  refine Zo fun A hA => ?_
  refine Zg fun N16 hN16 => ?_
  simp (maxSteps := 2000000) only [↓Za, ↓Zb, ↓Zc, vup, List.map_cons, List.map_nil, cond_true, cond_false, aop, Zf, ev, sput, Ze, Zw, Zy, Zj, Nat.reduceBEq, tyf, hv.len, hkin]
  refine hN16 [(0, v), (2, .int .i64 0), (3, Zd (minT xs xs.length)), (4, Zd xs.length), (15, .bool false)] _ _ ?_ (by simp (maxSteps := 2000000) only [vup, cond_true, cond_false, Nat.reduceBEq])
  clear hN16
  try clear N16
  refine Yo rfl ?_
  refine Zm ?_
  simp (maxSteps := 2000000) only [↓Ye, Zf]
  refine hQ2 _ _ _ (hQ _ _ _ ?_)
  simp (maxSteps := 2000000) only [Zf, Zl, Zr, if_true]
  refine hZ [(0, v), (2, .int .i64 0), (3, Zd (minT xs xs.length))] _ _ ?_ (by simp (maxSteps := 2000000) only [vup, cond_true, cond_false, Nat.reduceBEq])
  clear hZ
  try clear Z
  refine Zm ?_
  simp (maxSteps := 2000000) only [↓Za, ↓Zi, ↓Zu, ↓Zb, ↓Zc, vup, cond_true, cond_false, aop, Zf, ev, sput, Ze, Nat.reduceBEq, Zr, Xg, tup]

theorem ownSl_clear {h : Zh} {v : Value} {xs : List Int} {i : Nat} (ho : OwnSl 3 h v xs) (hi : i ≤ xs.length) {K : Value → Value → Zh → Prop} (hk : ∀ w h', OwnSl 3 h' v (xs.take i ++ List.replicate (xs.length - i) 0) → Ext (fun j => Yd v = some j) h h' → K w (.tuple #[]) h') :
    Yv prog 22 v (some (Zd i)) none none (fun w => clearK prog h 22 w (K w)) := by
  have he : (elemOf' prog 22).isSome = true := by rw [Xh]; rfl
  have hfull : i = xs.length → xs.take i ++ List.replicate (xs.length - i) 0 = xs := fun h => by rw [h, Nat.sub_self, List.take_length]; simp
  rcases ho with ⟨rfl, rfl⟩ | ⟨b, ys, rfl, hb⟩
  · simp only [List.length_nil, Nat.le_zero_eq] at hi
    subst hi
    have h1 := hk (.slice none 0 0) h (.inl ⟨rfl, rfl⟩) (Ext.refl _ _)
    show _ ∧ _ ∧ _ ∧ _ ∧ _
    exact ⟨by simp [Xh, Yw], rfl, rfl, rfl, he, h1⟩
  · have hsplice : Yg (xs ++ ys) i (List.replicate (xs.length - i) 0) = xs.take i ++ List.replicate (xs.length - i) 0 ++ ys := by
      rw [Yg, List.length_replicate, List.take_append_of_le_length hi, show i + (xs.length - i) = xs.length by omega, List.drop_left]
    have hsto : ∀ w, i < xs.length → storesK h b i (List.replicate (xs.length - i) (.int .i64 0)) (fun h' => K w (.tuple #[]) h') := fun w h1 => by
      have e1 : Xe (List.replicate (xs.length - i) (Value.int .i64 0)) = some (List.replicate (xs.length - i) 0) := by
        have := intsOf_map' (List.replicate (xs.length - i) 0)
        rw [List.map_replicate] at this; exact this
      refine ⟨by simp [one], ?_⟩
      simp only [hb, e1]
      refine ⟨by rw [List.length_replicate, List.length_append]; omega, ?_⟩
      rw [hsplice]
      exact hk w _ (.inr ⟨b, ys, by rw [List.length_append, List.length_take, List.length_replicate, Nat.min_eq_left hi, show i + (xs.length - i) = xs.length by omega], by rw [List.getElem?_set_self (Yp hb)]⟩) (Ext.set _ rfl)
    have hzb : (elemOf' prog 22).bind (Xv prog) = some [.int .i64 0] := by rw [Xh, Option.bind_some, zero_3]
    simp only [Yv, Xh, Yw, bnd]
    refine ⟨by omega, by omega, by omega, fun h => (by cases h), fun _ => ?_⟩
    by_cases h0 : i = 0
    · subst h0
      refine .inl ⟨rfl, he, fun hn => ?_, fun hn => ?_⟩
      · rw [Int.toNat_natCast] at hn
        have h1 := hfull (by omega)
        exact hk _ h (by rw [h1]; exact .inr ⟨b, ys, rfl, hb⟩) (Ext.refl _ _)
      · rw [Int.toNat_natCast] at hn
        rw [hzb, Int.toNat_natCast]; exact hsto _ (by omega)
    · refine .inr ⟨by omega, ?_⟩
      by_cases hl : i < xs.length
      · refine .inl ⟨by omega, by omega, he, fun hn => by omega, fun hn => ?_⟩
        rw [hzb]
        have e2 : ((xs.length : Int) - ((i : Nat) : Int)).toNat = xs.length - i := by omega
        have e3 : 0 + ((i : Nat) : Int).toNat * 1 = i := by simp
        rw [e2, e3]; exact hsto _ hl
      · have h1 := hfull (by omega)
        exact .inr ⟨by omega, he, hk _ h (by rw [h1]; exact .inr ⟨b, ys, rfl, hb⟩) (Ext.refl _ _)⟩

def stay (p : Int → Bool) (xs : List Int) (j : Nat) : Nat := ((xs.take j).filter fun x => !p x).length
theorem stay_le (p : Int → Bool) (xs : List Int) (j : Nat) : stay p xs j ≤ j := Nat.le_trans (List.length_filter_le _ _) (by rw [List.length_take]; omega)
theorem take_snocI {xs : List Int} {j : Nat} (hj : j < xs.length) : xs.take (j + 1) = xs.take j ++ [xs.getD j 0] := by
  rw [List.take_succ, List.getElem?_eq_getElem hj, Option.toList_some, List.getD, List.getElem?_eq_getElem hj]; rfl
theorem stay_hit {p : Int → Bool} {xs : List Int} {j : Nat} (hj : j < xs.length) (hp : p (xs.getD j 0) = true) : (xs.take (j + 1)).filter (fun x => !p x) = (xs.take j).filter fun x => !p x := by
  rw [take_snocI hj, List.filter_append, List.filter_cons, List.filter_nil, hp]; simp
theorem stay_miss {p : Int → Bool} {xs : List Int} {j : Nat} (hj : j < xs.length) (hp : p (xs.getD j 0) = false) : (xs.take (j + 1)).filter (fun x => !p x) = ((xs.take j).filter fun x => !p x) ++ [xs.getD j 0] := by
  rw [take_snocI hj, List.filter_append, List.filter_cons, List.filter_nil, hp]; simp
structure Dl (p : Int → Bool) (xs : List Int) (j : Nat) (ys : List Int) : Prop where
  len : ys.length = xs.length
  tk : ys.take (stay p xs j) = (xs.take j).filter fun x => !p x
  dr : ys.drop j = xs.drop j
theorem Dl.get {p : Int → Bool} {xs ys : List Int} {j k : Nat} (d : Dl p xs j ys) (h : j ≤ k) : ys.getD k 0 = xs.getD k 0 := by
  have h1 : (ys.drop j)[k - j]? = (xs.drop j)[k - j]? := by rw [d.dr]
  rw [List.getElem?_drop, List.getElem?_drop, show j + (k - j) = k by omega] at h1
  rw [List.getD, h1, List.getD]
theorem Dl.hit {p : Int → Bool} {xs ys : List Int} {j : Nat} (d : Dl p xs j ys) (hj : j < xs.length) (hp : p (xs.getD j 0) = true) : Dl p xs (j + 1) ys ∧ stay p xs (j + 1) = stay p xs j := by
  have h1 : stay p xs (j + 1) = stay p xs j := by rw [stay, stay_hit hj hp]; rfl
  refine ⟨⟨d.len, by rw [h1, stay_hit hj hp]; exact d.tk, ?_⟩, h1⟩
  have := congrArg (List.drop 1) d.dr
  rw [List.drop_drop, List.drop_drop] at this
  exact this
theorem Dl.miss {p : Int → Bool} {xs ys : List Int} {j : Nat} (d : Dl p xs j ys) (hj : j < xs.length) (hp : p (xs.getD j 0) = false) : Dl p xs (j + 1) (ys.set (stay p xs j) (xs.getD j 0)) ∧ stay p xs (j + 1) = stay p xs j + 1 := by
  have h1 : stay p xs (j + 1) = stay p xs j + 1 := by rw [stay, stay_miss hj hp, List.length_append]; rfl
  have hs := stay_le p xs j
  have hl := d.len
  refine ⟨⟨by rw [List.length_set]; exact d.len, ?_, ?_⟩, h1⟩
  · rw [h1, stay_miss hj hp, ← d.tk, take_snocI (by rw [List.length_set]; omega), List.take_set_of_le (Nat.le_refl _), List.getD, List.getElem?_set_self (by omega)]; rfl
  · have := congrArg (List.drop 1) d.dr
    rw [List.drop_drop, List.drop_drop] at this
    rw [List.drop_set_of_lt (by omega)]
    exact this
theorem s81_callW [Tabs Tryd.prog] {args : List Value} {h : Zh} {Q : Value → Zh → Prop} (hsz : args.length ≤ 42) (hk : AWS Tryd.prog 42 s81 (Zr Tryd.prog [.tmp 4] Q) (Zp 0 args) h) : ACall Tryd.prog 81 args h Q :=
  Xb Tryd.func81 rfl (enters_of Tryd.func81 (by kernel_rfl) rfl) rfl rfl (by decide) s81_strip s81_ok hsz hk
theorem delete_call [Tabs prog] {h : Zh} {v : Value} {xs : List Int} {g : FuncId} {caps : Array Value} {p : Int → Bool} (ho : OwnSl 3 h v xs) (hl : xs.length < 1099511627776) (hp : ∀ H, Ext (fun b => Yd v = some b) h H → ∀ x ∈ xs, APure prog g (Zd x :: caps.toList) H (.bool (p x))) :
    ACall prog 81 [v, .func (.func g) #[] caps] h fun r h' => IntSl h' r (xs.filter fun x => !p x) ∧ Ext (fun b => Yd v = some b) h h' := by
  refine s81_callW (by simp) ?_
  simp only [s81]
  refine Zg fun N17 hN17 => ?_
  simp (maxSteps := 2000000) only [↓Za, ↓Zb, ↓Zc, vup, cond_false, aop, Zf, Zp, ev, sput, Ze, Nat.reduceBEq, Nat.reduceAdd]
  refine hN17 [(0, v), (1, .func (.func g) #[] caps), (4, .slice none 0 0)] _ _ ?_ (by simp (maxSteps := 2000000) only [vup, cond_true, cond_false, Nat.reduceBEq])
  clear hN17
  try clear N17
  refine Zg fun N18 hN18 => ?_
  simp (maxSteps := 2000000) only [↓Za, ↓Zb, ↓Zc, vup, List.map_cons, List.map_nil, cond_true, cond_false, aop, Zf, ev, sput, Ze, Nat.reduceBEq, Ym, List.nil_append, List.append_nil]
  refine (index_call ho.int (by omega) (hp _ (Ext.refl _ _))).mono ?_
  rintro _ h ⟨rfl, rfl⟩
  refine hN18 [(0, v), (1, .func (.func g) #[] caps), (4, .slice none 0 0), (5, Zd (idxF p xs))] _ _ ?_ (by simp (maxSteps := 2000000) only [vup, cond_true, cond_false, Nat.reduceBEq])
  clear hN18
  try clear N18
  cases hany : xs.any p with
  | false =>
    have hix : idxF p xs = -1 := by rw [idxF, hany]; rfl
    have hf : xs.filter (fun x => !p x) = xs := List.filter_eq_self.2 fun x hx => by
      have := List.any_eq_false.1 hany x hx
      simpa using this
    rw [hix]
    refine Zo fun M hM => ?_
    refine Zg fun N19 hN19 => ?_
    simp (maxSteps := 2000000) only [↓Za, ↓Zb, ↓Zc, vup, cond_true, cond_false, aop, Zf, ev, sput, Ze, Zw, Zy, Nat.reduceBEq, Int.reduceBEq]
    refine hN19 [(0, v), (1, .func (.func g) #[] caps), (4, .slice none 0 0), (5, .int .i64 (-1)), (12, .bool true)] _ _ ?_ (by simp (maxSteps := 2000000) only [vup, cond_true, cond_false, Nat.reduceBEq])
    clear hN19
    try clear N19
    refine Xd rfl ?_
    refine Zm ?_
    simp (maxSteps := 2000000) only [↓Za, ↓Zi, ↓Zu, ↓Zb, ↓Zc, vup, cond_true, cond_false, aop, Zf, ev, sput, Ze, Nat.reduceBEq, Zr, Xg, tup]
    exact ⟨by rw [hf]; exact ho.int, Ext.refl _ _⟩
  | true =>
    obtain ⟨i0, hi0⟩ : ∃ i0, xs.findIdx p = i0 := ⟨_, rfl⟩
    have hix : idxF p xs = ((i0 : Nat) : Int) := by rw [idxF, if_pos hany, hi0]
    obtain ⟨x0, hx0, hpx0⟩ := List.any_eq_true.1 hany
    have hlt : i0 < xs.length := by rw [← hi0]; exact List.findIdx_lt_length_of_exists ⟨x0, hx0, hpx0⟩
    have hfs := (List.findIdx_eq hlt).1 hi0
    have hp0 : p (xs.getD i0 0) = true := by rw [List.getD, List.getElem?_eq_getElem hlt]; exact hfs.1
    have hall : (xs.take i0).filter (fun x => !p x) = xs.take i0 := List.filter_eq_self.2 fun x hx => by
      obtain ⟨j, hj, rfl⟩ := List.mem_iff_getElem.1 hx
      rw [List.length_take] at hj
      rw [List.getElem_take, hfs.2 j (by omega)]; rfl
    have hst0 : stay p xs i0 = i0 := by rw [stay, hall, List.length_take]; omega
    have d0 : Dl p xs i0 xs := ⟨rfl, by rw [hst0, hall], rfl⟩
    obtain ⟨d1, hst1⟩ := d0.hit hlt hp0
    rw [hst0] at hst1
    have hne : (((i0 : Nat) : Int) == -1) = false := by rw [beq_eq_false_iff_ne]; omega
    rw [hix]
    refine Zo fun M hM => ?_
    refine Zg fun N20 hN20 => ?_
    simp (maxSteps := 2000000) only [↓Za, ↓Zb, ↓Zc, vup, cond_true, cond_false, aop, Zf, ev, sput, Ze, Zw, Zy, Nat.reduceBEq, hne]
    refine hN20 [(0, v), (1, .func (.func g) #[] caps), (4, .slice none 0 0), (5, Zd (i0 : Nat)), (12, .bool false)] _ _ ?_ (by simp (maxSteps := 2000000) only [vup, cond_true, cond_false, Nat.reduceBEq])
    clear hN20
    try clear N20
    refine Yo rfl ?_
    refine Zm ?_
    simp (maxSteps := 2000000) only [↓Zk, Zf]
    refine hM [(0, v), (1, .func (.func g) #[] caps), (4, .slice none 0 0), (5, Zd (i0 : Nat))] _ _ ?_ (by simp (maxSteps := 2000000) only [vup, cond_true, cond_false, Nat.reduceBEq])
    clear hM
    try clear M
    refine Zo fun Z hZ => ?_
    refine Zg fun N21 hN21 => ?_
    simp (maxSteps := 2000000) only [↓Za, ↓Zb, ↓Zc, vup, cond_true, cond_false, aop, Zf, ev, sput, Ze, Zw, Zy, Nat.reduceBEq, Wy (show i0 < 9223372036854775807 by omega)]
    refine hN21 [(0, v), (1, .func (.func g) #[] caps), (4, .slice none 0 0), (5, Zd (i0 : Nat)), (6, Zd (i0 + 1 : Nat))] _ _ ?_ (by simp (maxSteps := 2000000) only [vup, cond_true, cond_false, Nat.reduceBEq])
    clear hN21
    try clear N21
    refine Zv ?_
    refine Zn fun Q hQ => ?_
    refine Yx (γ := Nat × List Int × Zh) (fun s => s.1 ≤ xs.length ∧ Dl p xs s.1 s.2.1 ∧ OwnSl 3 s.2.2 v s.2.1 ∧ Ext (fun b => Yd v = some b) h s.2.2)
      (fun s => ([(0, v), (1, .func (.func g) #[] caps), (4, .slice none 0 0), (5, Zd (stay p xs s.1 : Nat)), (6, Zd (s.1 : Nat))], s.2.2)) (fun s => xs.length - s.1) (i0 + 1, xs, h) ⟨hlt, d1, ho, Ext.refl _ _⟩ (by simp (maxSteps := 2000000) only [vup, cond_true, cond_false, Nat.reduceBEq, hst1]) rfl ?_
    rintro ⟨j, ys, H⟩ ⟨hj, d, hy, hE⟩
    simp only at hj d hy hE
    refine Zn fun Q2 hQ2 => ?_
    simp only [l81_0]
    have hyl := d.len
    have hsl := stay_le p xs j
    by_cases hjin : (j : Int) < xs.length
    · have hj' : j < xs.length := by omega
      have hjY : j < ys.length := by omega
      have hxm : xs.getD j 0 ∈ xs := by rw [List.getD, List.getElem?_eq_getElem hj']; exact List.getElem_mem hj'
      refine Zo fun A hA => ?_
      refine Zg fun N22 hN22 => ?_
      simp (maxSteps := 2000000) only [↓Za, ↓Zb, ↓Zc, vup, List.map_cons, List.map_nil, cond_true, cond_false, aop, Zf, ev, sput, Ze, Zw, Zy, Zj, Nat.reduceBEq, tyf, hy.int.len, hyl, hjin]
      refine hN22 [(0, v), (1, .func (.func g) #[] caps), (4, .slice none 0 0), (5, Zd (stay p xs j : Nat)), (6, Zd (j : Nat)), (19, .bool true)] _ _ ?_ (by simp (maxSteps := 2000000) only [vup, cond_true, cond_false, Nat.reduceBEq])
      clear hN22
      try clear N22
      refine Xd rfl ?_
      refine Zm ?_
      simp (maxSteps := 2000000) only [↓Zk, Zf]
      refine hA [(0, v), (1, .func (.func g) #[] caps), (4, .slice none 0 0), (5, Zd (stay p xs j : Nat)), (6, Zd (j : Nat))] _ _ ?_ (by simp (maxSteps := 2000000) only [vup, cond_true, cond_false, Nat.reduceBEq])
      clear hA
      try clear A
      refine Zo fun B hB => ?_
      refine Zv ?_
      refine Zg fun N23 hN23 => ?_
      simp (maxSteps := 2000000) only [↓Za, ↓Zb, ↓Zc, vup, cond_true, cond_false, aop, Zf, ev, sput, Ze, Nat.reduceBEq, hy.int.idx Xh Yw hjY, hy.int.load Yu hjY, d.get (Nat.le_refl j)]
      refine hN23 [(0, v), (1, .func (.func g) #[] caps), (4, .slice none 0 0), (5, Zd (stay p xs j : Nat)), (6, Zd (j : Nat)), (7, Zd (xs.getD j 0))] _ _ ?_ (by simp (maxSteps := 2000000) only [vup, cond_true, cond_false, Nat.reduceBEq])
      clear hN23
      try clear N23
      refine Zg fun N24 hN24 => ?_
      simp (maxSteps := 2000000) only [↓Za, ↓Zb, ↓Zc, vup, List.map_cons, List.map_nil, cond_true, cond_false, aop, Zf, ev, sput, Ze, unK, Nat.reduceBEq, Ym, List.nil_append, List.cons_append]
      refine (hp H hE _ hxm).mono ?_
      rintro _ H ⟨rfl, rfl⟩
      simp (maxSteps := 2000000) only []
      refine hN24 [(0, v), (1, .func (.func g) #[] caps), (4, .slice none 0 0), (5, Zd (stay p xs j : Nat)), (6, Zd (j : Nat)), (7, Zd (xs.getD j 0)), (29, .bool (!p (xs.getD j 0)))] _ _ ?_ (by simp (maxSteps := 2000000) only [vup, cond_true, cond_false, Nat.reduceBEq])
      clear hN24
      try clear N24
      cases hpx : p (xs.getD j 0) with
      | true =>
        obtain ⟨d', hs'⟩ := d.hit hj' hpx
        refine Yo rfl ?_
        refine Zm ?_
        simp (maxSteps := 2000000) only [↓Zk, vup, Zf, Zl]
        refine hB [(0, v), (1, .func (.func g) #[] caps), (4, .slice none 0 0), (5, Zd (stay p xs j : Nat)), (6, Zd (j : Nat))] _ _ ?_ (by simp (maxSteps := 2000000) only [vup, cond_true, cond_false, Nat.reduceBEq])
        clear hB
        try clear B
        refine Zm ?_
        simp (maxSteps := 2000000) only [↓Za, ↓Zb, ↓Zc, vup, cond_true, cond_false, aop, ev, sput, Ze, Zw, Zy, Nat.reduceBEq, Wy (show j < 9223372036854775807 by omega)]
        exact hQ2 _ _ _ ⟨(j + 1, ys, H), ⟨hj', d', hy, hE⟩, by simp only; omega, by simp (maxSteps := 2000000) only [vup, cond_true, cond_false, Nat.reduceBEq, hs'], rfl⟩
      | false =>
        obtain ⟨d', hs'⟩ := d.miss hj' hpx
        have hsY : stay p xs j < ys.length := by omega
        refine Xd rfl ?_
        refine Zg fun N25 hN25 => ?_
        simp (maxSteps := 2000000) only [↓Za, ↓Zb, ↓Zc, vup, cond_true, cond_false, aop, Zf, ev, sput, Ze, Nat.reduceBEq, hy.int.idx Xh Yw hsY]
        refine ownSl_store hy hsY fun G hy2 hE2 => ?_
        refine hN25 [(0, v), (1, .func (.func g) #[] caps), (4, .slice none 0 0), (5, Zd (stay p xs j : Nat)), (6, Zd (j : Nat)), (7, Zd (xs.getD j 0)), (29, .bool (!false))] _ _ ?_ (by simp (maxSteps := 2000000) only [vup, cond_true, cond_false, Nat.reduceBEq])
        clear hN25
        try clear N25
        refine Zm ?_
        simp (maxSteps := 2000000) only [↓Za, ↓Zb, ↓Zc, vup, cond_true, cond_false, aop, Zf, Zl, ev, sput, Ze, Zw, Zy, Nat.reduceBEq, Wy (show stay p xs j < 9223372036854775807 by omega)]
        refine hB [(0, v), (1, .func (.func g) #[] caps), (4, .slice none 0 0), (5, Zd (stay p xs j + 1 : Nat)), (6, Zd (j : Nat))] _ _ ?_ (by simp (maxSteps := 2000000) only [vup, cond_true, cond_false, Nat.reduceBEq])
        clear hB
        try clear B
        refine Zm ?_
        simp (maxSteps := 2000000) only [↓Za, ↓Zb, ↓Zc, vup, cond_true, cond_false, aop, ev, sput, Ze, Zw, Zy, Nat.reduceBEq, Wy (show j < 9223372036854775807 by omega)]
        exact hQ2 _ _ _ ⟨(j + 1, ys.set (stay p xs j) (xs.getD j 0), G), ⟨hj', d', hy2, hE.trans hE2⟩, by simp only; omega, by simp (maxSteps := 2000000) only [vup, cond_true, cond_false, Nat.reduceBEq, hs'], rfl⟩
    obtain rfl : j = xs.length := by omega
    refine Zo fun A hA => ?_
    refine Zg fun N26 hN26 => ?_
    simp (maxSteps := 2000000) only [↓Za, ↓Zb, ↓Zc, vup, List.map_cons, List.map_nil, cond_true, cond_false, aop, Zf, ev, sput, Ze, Zw, Zy, Zj, Nat.reduceBEq, tyf, hy.int.len, hyl, hjin]
    refine hN26 [(0, v), (1, .func (.func g) #[] caps), (4, .slice none 0 0), (5, Zd (stay p xs xs.length : Nat)), (6, Zd xs.length), (19, .bool false)] _ _ ?_ (by simp (maxSteps := 2000000) only [vup, cond_true, cond_false, Nat.reduceBEq])
    clear hN26
    try clear N26
    refine Yo rfl ?_
    refine Zm ?_
    simp (maxSteps := 2000000) only [↓Ye, Zf]
    refine hQ2 _ _ _ (hQ _ _ _ ?_)
    simp (maxSteps := 2000000) only [Zf, Zl, Zr, if_true]
    refine hZ [(0, v), (1, .func (.func g) #[] caps), (4, .slice none 0 0), (5, Zd (stay p xs xs.length : Nat))] _ _ ?_ (by simp (maxSteps := 2000000) only [vup, cond_true, cond_false, Nat.reduceBEq])
    clear hZ
    try clear Z
    clear hQ hQ2
    have hsY : stay p xs xs.length ≤ ys.length := by omega
    refine Zg fun N27 hN27 => ?_
    simp (maxSteps := 2000000) only [↓Za, ↓Zb, ↓Zc, vup, List.map_cons, List.map_nil, cond_true, cond_false, aop, Zf, ev, sput, Ze, Zj, Nat.reduceBEq, Option.map_some, Option.map_none]
    refine ownSl_clear hy hsY fun _ G hy2 hE2 => ?_
    refine hN27 [(0, v), (1, .func (.func g) #[] caps), (4, .slice none 0 0), (5, Zd (stay p xs xs.length : Nat))] _ _ ?_ (by simp (maxSteps := 2000000) only [vup, cond_true, cond_false, Nat.reduceBEq])
    clear hN27
    try clear N27
    refine Zm ?_
    simp (maxSteps := 2000000) only [↓Za, ↓Zi, ↓Zu, ↓Zb, ↓Zc, vup, cond_true, cond_false, aop, Zf, ev, sput, Ze, Nat.reduceBEq, Zr, Xg, tup, Option.map_some, Option.map_none]
    refine hy2.int.pre Xh Yw (by rw [List.length_append, List.length_take]; omega) fun w hw => ?_
    have htk := d.tk
    rw [List.take_length] at htk
    rw [List.take_append_of_le_length (by rw [List.length_take]; omega), List.take_take, Nat.min_self, htk] at hw
    exact ⟨hw, hE.trans hE2⟩
end Go.Proofs.Tryd.Am

namespace Bq

theorem left_triv {n : Nat} {M : Nat → Nat → Rat} : det n M ≠ 0 ↔ ∀ u : Nat → Rat, (∀ c, c < n → sumTo (fun r => u r * M c r) n = 0) → ∀ r, r < n → u r = 0 := by
  constructor
  · intro hd u hu r hr
    obtain ⟨x, hx⟩ := sol_ex hd (fun r' => if r' = r then 1 else 0)
    have h1 : sumTo (fun r' => u r' * (if r' = r then 1 else 0)) n = u r := by
      rw [← sum_one u hr]
      exact sumTo_congr fun r' _ => Rat.mul_comm _ _
    have h2 : sumTo (fun r' => u r' * (if r' = r then 1 else 0)) n = sumTo (fun r' => sumTo (fun c => x c * (u r' * M c r')) n) n := sumTo_congr fun r' hr' => by
      rw [← hx r' hr', ← sumTo_mul]
      exact sumTo_congr fun c _ => by grind
    rw [← h1, h2, sumTo_swap]
    refine sumTo_zero fun c hc => ?_
    rw [sumTo_mul, hu c hc, Rat.mul_zero]
  · intro h hd
    obtain ⟨u, ⟨r, hr, h0⟩, hu⟩ := left_ker n M hd
    exact h0 (h u hu r hr)
theorem det_rev {n : Nat} {M : Nat → Nat → Rat} : det n (fun c => M (n - 1 - c)) ≠ 0 ↔ det n M ≠ 0 := by
  rw [left_triv, left_triv]
  constructor
  · intro h u hu
    exact h u fun c hc => hu (n - 1 - c) (by omega)
  · intro h u hu
    refine h u fun c hc => ?_
    have := hu (n - 1 - c) (by omega)
    rw [show n - 1 - (n - 1 - c) = c by omega] at this
    exact this
def rowI (n : Nat) (sets : List Nat) (k : Nat) : List Int := (List.range n).map (fun i => if k < sets.length then (if (sets.getD k 0).testBit i then 1 else 0) else if i = k - sets.length then 1 else 0) ++ [if k < sets.length then 1 else 0]
theorem rowI_len (n : Nat) (sets : List Nat) (k : Nat) : (rowI n sets k).length = n + 1 := by simp [rowI]
theorem rowI_01 {n : Nat} {sets : List Nat} {k : Nat} : ∀ y ∈ rowI n sets k, y = 0 ∨ y = 1 := fun y hy => by
  rw [rowI, List.mem_append, List.mem_map, List.mem_singleton] at hy
  rcases hy with ⟨i, _, rfl⟩ | rfl
  · split <;> split <;> simp
  · split <;> simp
theorem rowI_get {n : Nat} {sets : List Nat} {k c : Nat} (hc : c < n) : (((rowI n sets k).getD c 0 : Int) : Rat) = rowA sets k c := by
  rw [rowI, List.getD, List.getElem?_append_left (by simpa using hc), List.getElem?_map, List.getElem?_range hc]
  simp only [Option.map_some, Option.getD_some]
  rw [rowA, bitQ]
  split <;> split <;> rfl
theorem rowI_end (n : Nat) (sets : List Nat) (k : Nat) : (((rowI n sets k).getD n 0 : Int) : Rat) = rhsA sets k := by
  rw [rowI, List.getD, List.getElem?_append_right (by simp)]
  simp only [List.length_map, List.length_range, Nat.sub_self, List.getElem?_cons_zero, Option.getD_some]
  rw [rhsA]
  split <;> rfl
def rowsI (n : Nat) (sets B : List Nat) : List (List Int) := B.map (rowI n sets)
theorem rowsI_get {n : Nat} {sets B : List Nat} {r : Nat} (hr : r < B.length) : (rowsI n sets B).getD r [] = rowI n sets (B.getD r 0) := by
  rw [rowsI, List.getD, List.getElem?_map, List.getD, List.getElem?_eq_getElem hr]; rfl
theorem pdet_row {n : Nat} {sets B : List Nat} (hl : B.length = n) : pdet n (rowsI n sets B) ≠ 0 ↔ det n (fun c r => Wd (rowA sets) B r c) ≠ 0 := by
  have h1 := pdet_det n (rowsI n sets B) (by rw [rowsI, List.length_map, hl])
  have h2 : det n (colsOf n (rowsI n sets B)) = det n (fun c => (fun c r => Wd (rowA sets) B r c) (n - 1 - c)) := Xc _ fun c r hc hr => by
    rw [colsOf, rowsI_get (by omega), rowI_get (by omega)]; rfl
  rw [← det_rev (M := fun c r => Wd (rowA sets) B r c), ← h2]
  have hτ : tau n ≠ 0 := fun h => by have := tau_sq n; rw [h] at this; simp at this
  constructor
  · intro h hc
    rw [hc, Rat.mul_zero] at h1
    exact h (Rat.intCast_eq_zero_iff.1 h1)
  · intro h hc
    rw [hc] at h1
    rcases Rat.mul_eq_zero.1 h1.symm with h3 | h3
    · exact hτ h3
    · exact h h3
theorem leaf_none {n : Nat} {sets B : List Nat} (h : pdet n (rowsI n sets B) = 0) : ∀ x, ¬ Corner n sets B x := fun x c => (pdet_row c.len).2 c.det h
theorem leaf_some {n : Nat} {sets B : List Nat} (hl : B.length = n) (h : pdet n (rowsI n sets B) ≠ 0) : ∃ y : Nat → Rat, (∀ j, j < n → ((pdet n ((rowsI n sets B).map (putR n j)) : Int) : Rat) = y j * ((pdet n (rowsI n sets B) : Int) : Rat)) ∧
    (∀ r, r < n → sumTo (fun c => y c * Wd (rowA sets) B r c) n = rhsA sets (B.getD r 0)) ∧ ∀ x, Corner n sets B x → ∀ i, i < n → x i = y i := by
  have hd := (pdet_row hl).1 h
  obtain ⟨y, hy⟩ := sol_ex hd fun r => rhsA sets (B.getD r 0)
  refine ⟨y, fun j hj => ?_, hy, fun x c i hi => Classical.byContradiction fun hne => ?_⟩
  · refine pdet_cram (by rw [rowsI, List.length_map, hl]) (fun r hr => by
      obtain ⟨k, _, rfl⟩ := List.mem_map.1 hr; exact rowI_len n sets k) (fun r hr => ?_) hj
    rw [rowsI_get (by omega), rowI_end, ← hy r hr]
    exact sumTo_congr fun c hc => by rw [rowI_get hc]; rfl
  · refine hd (ker_det (x := fun c => x c - y c) hi (fun hc => hne (by grind)) fun r hr => ?_)
    have h1 := c.sol r hr
    have h2 := hy r hr
    have e : sumTo (fun c => (x c - y c) * Wd (rowA sets) B r c) n = sumTo (fun c => x c * Wd (rowA sets) B r c) n + (-1) * sumTo (fun c => y c * Wd (rowA sets) B r c) n := by
      rw [← sumTo_mul, ← Xo]
      exact sumTo_congr fun c _ => by grind
    rw [e, h1, h2]; grind
end Bq

namespace Go.Proofs.Tryd.Am
open Go.Am Bq
set_option maxRecDepth 100000
set_option maxHeartbeats 4000000

theorem sub_cons {k : Nat} {t : List Nat} : ∀ {n a : Nat}, (k :: t).Sublist (List.range' a n) → a ≤ k ∧ k < a + n ∧ t.Sublist (List.range' (k + 1) (a + n - (k + 1)))
  | 0, a, h => by simp at h
  | n + 1, a, h => by
    rw [List.range'_succ] at h
    cases h with
    | cons _ h =>
      obtain ⟨h1, h2, h3⟩ := sub_cons h
      refine ⟨by omega, by omega, ?_⟩
      rw [show a + (n + 1) - (k + 1) = a + 1 + n - (k + 1) by omega]; exact h3
    | cons_cons _ h =>
      refine ⟨Nat.le_refl _, by omega, ?_⟩
      rw [show k + (n + 1) - (k + 1) = n by omega]; exact h
def KG (h0 : Zh) (pb : Nat) (h : Zh) : Prop := Ext (fun b => b = pb) h0 h
theorem KG.at_ {h0 h : Zh} {pb b : Nat} {B : Blk} (k : KG h0 pb h) (hb : h0[b]? = some B) (hn : b ≠ pb) : h[b]? = some B := (k.2 b (Yp hb) hn).trans hb
def bC (q : Rat) : Blk := .cells [Zd q.num, Zd q.den] 44 false
structure GE (n : Nat) (sets : List Nat) (rws : List Value) (h0 : Zh) (pn pr pg ps pb : Nat) (rv sv : Value) : Prop where
  n1 : 1 ≤ n
  n6 : n ≤ 6
  lt : ∀ s ∈ sets, s < 2 ^ n
  l : sets.length < 1000
  nb : h0[pn]? = some (.cells [Zd (n : Nat)] 3 false)
  rb : h0[pr]? = some (.cells [rv] 82 false)
  gb : h0[pg]? = some (.cells [.func (.func 85) #[] #[.pointer (some ⟨pn, 0, none⟩), .pointer (some ⟨pr, 0, none⟩), .pointer (some ⟨pg, 0, none⟩), .pointer (some ⟨ps, 0, none⟩), .pointer (some ⟨pb, 0, none⟩)]] 83 false)
  sb : h0[ps]? = some (.cells [sv] 22 false)
  fn : pn ≠ pb
  fr : pr ≠ pb
  fg : pg ≠ pb
  fs : ps ≠ pb
  rows : ∀ H, KG h0 pb H → ValSl H rv rws ∧ Each (IntSl H) rws ((List.range (sets.length + n)).map (rowI n sets))
  st : ∀ H, KG h0 pb H → IntSl H sv (sets.map fun s => ((s : Nat) : Int))
def Att (n : Nat) (sets : List Nat) (q : Rat) : Prop := (∃ x, PFeas n sets x ∧ sumTo x n = q) ∧ q.num.natAbs ≤ 4320 ∧ q.den ≤ 720
def GR (n : Nat) (sets : List Nat) (pb : Nat) (h : Zh) (q : Rat) (B : List Nat) (fr d : Nat) (h' : Zh) : Prop :=
  Ext (fun b => b = pb) h h' ∧ ∃ q', h'[pb]? = some (bC q') ∧ Att n sets q' ∧ q ≤ q' ∧ ∀ t : List Nat, t.Sublist (List.range' fr (sets.length + n - fr)) → t.length = d → ∀ x, Corner n sets (B ++ t) x → sumTo x n ≤ q'
theorem numL_get {n : Nat} {s : List (List Int)} {j : Nat} (hj : j < n) : (numL n s).getD j 0 = if pdet n s < 0 then - pdet n (s.map (putR n j)) else pdet n (s.map (putR n j)) := by
  rw [numL]
  split
  · rw [List.getD, List.getElem?_map, numT, List.getElem?_map, List.getElem?_range hj]; rfl
  · exact numT_get hj
theorem numL_len (n : Nat) (s : List (List Int)) : (numL n s).length = n := by
  rw [numL]; split
  · rw [List.length_map, numT_len]
  · exact numT_len _ _ _
theorem numL_rat {n : Nat} {s : List (List Int)} {y : Nat → Rat} (h : ∀ j, j < n → ((pdet n (s.map (putR n j)) : Int) : Rat) = y j * ((pdet n s : Int) : Rat)) {j : Nat} (hj : j < n) : (((numL n s).getD j 0 : Int) : Rat) = y j * (((pdet n s).natAbs : Int) : Rat) := by
  rw [numL_get hj]
  by_cases h0 : pdet n s < 0
  · rw [if_pos h0, show (((pdet n s).natAbs : Nat) : Int) = - pdet n s by omega, Rat.intCast_neg, Rat.intCast_neg, h j hj]; grind
  · rw [if_neg h0, show (((pdet n s).natAbs : Nat) : Int) = pdet n s by omega, h j hj]

theorem s85_callW [Tabs Tryd.prog] {args : List Value} {h : Zh} {Q : Value → Zh → Prop} (hsz : args.length ≤ 105) (hk : AWS Tryd.prog 105 s85 (Zr Tryd.prog [] Q) (Zp 0 args) h) : ACall Tryd.prog 85 args h Q :=
  Xb Tryd.func85 rfl (enters_of Tryd.func85 (by kernel_rfl) rfl) rfl rfl (by decide) s85_strip s85_ok hsz hk
theorem leaf_call [Tabs prog] {n : Nat} {sets : List Nat} {rws : List Value} {h0 : Zh} {pn pr pg ps pb : Nat} {rv sv : Value} (ge : GE n sets rws h0 pn pr pg ps pb rv sv) {fr : Nat} {B : List Nat} {h : Zh} {v : Value} {q : Rat} (hB : B.length = n) (hk : KG h0 pb h)
    (hv : RowsI h v (rowsI n sets B)) (hq : h[pb]? = some (bC q)) (ha : Att n sets q) (hbB : ∀ x, Corner n sets B x → Corner n sets (B ++ []) x) :
    ACall prog 85 [Zd (fr : Nat), v, .pointer (some ⟨pn, 0, none⟩), .pointer (some ⟨pr, 0, none⟩), .pointer (some ⟨pg, 0, none⟩), .pointer (some ⟨ps, 0, none⟩), .pointer (some ⟨pb, 0, none⟩)] h fun _ h' => GR n sets pb h q B fr 0 h' := by
  have hkn := hk.at_ ge.nb ge.fn
  have hks := hk.at_ ge.sb ge.fs
  have h6 := ge.n6
  have hlen : (rowsI n sets B).length = n := by rw [rowsI, List.length_map, hB]
  have hr01 : ∀ r ∈ rowsI n sets B, r.length = n + 1 ∧ ∀ y ∈ r, y = 0 ∨ y = 1 := fun r hr => by
    obtain ⟨k, _, rfl⟩ := List.mem_map.1 hr
    exact ⟨rowI_len n sets k, rowI_01⟩
  -- nothing new where the sequence is no corner
  have none_ : ∀ h', Ext (fun b => b = pb) h h' → h'[pb]? = some (bC q) → (∀ x, ¬ Corner n sets B x) → GR n sets pb h q B fr 0 h' := fun h' hE hb hno =>
    ⟨hE, q, hb, ha, Rat.le_refl, fun t _ ht x hx => by
      obtain rfl : t = [] := List.length_eq_zero_iff.1 ht
      rw [List.append_nil] at hx
      exact absurd hx (hno x)⟩
  have mono : ∀ {h' : Zh}, Ext (fun _ => False) h h' → Ext (fun b => b = pb) h h' ∧ h'[pb]? = some (bC q) := fun {h'} hE => ⟨hE.mono fun _ h => h.elim, (hE.2 _ (Yp hq) id).trans hq⟩
  obtain ⟨ws, w1, w2⟩ := id hv
  have hwl : ws.length = n := w2.len.trans hlen
  have hnn : ¬ ((n : Int) < n) := by omega
  refine s85_callW (by simp) ?_
  simp only [s85]
  refine Zo fun M hM => ?_
  refine Zg fun N1 hN1 => ?_
  simp (maxSteps := 2000000) only [↓Za, ↓Zb, ↓Zc, vup, List.map_cons, List.map_nil, cond_true, cond_false, aop, Zf, Zp, ev, sput, Ze, Zw, Zy, Zj, Nat.reduceBEq, Nat.reduceAdd, tyf, w1.len, hwl, Wa hkn Yu, hnn]
  refine hN1 [(0, Zd (fr : Nat)), (1, v), (2, .pointer (some ⟨pn, 0, none⟩)), (3, .pointer (some ⟨pr, 0, none⟩)), (4, .pointer (some ⟨pg, 0, none⟩)), (5, .pointer (some ⟨ps, 0, none⟩)), (6, .pointer (some ⟨pb, 0, none⟩)), (25, .bool false)] _ _ ?_ (by simp (maxSteps := 2000000) only [vup, cond_true, cond_false, Nat.reduceBEq])
  clear hN1
  try clear N1
  refine Yo rfl ?_
  refine Zm ?_
  simp (maxSteps := 2000000) only [↓Zk, Zf]
  refine hM [(0, Zd (fr : Nat)), (1, v), (2, .pointer (some ⟨pn, 0, none⟩)), (3, .pointer (some ⟨pr, 0, none⟩)), (4, .pointer (some ⟨pg, 0, none⟩)), (5, .pointer (some ⟨ps, 0, none⟩)), (6, .pointer (some ⟨pb, 0, none⟩))] _ _ ?_ (by simp (maxSteps := 2000000) only [vup, cond_true, cond_false, Nat.reduceBEq])
  clear hM
  try clear M
  refine Zg fun N2 hN2 => ?_
  simp (maxSteps := 2000000) only [↓Za, ↓Zb, ↓Zc, vup, List.map_cons, List.map_nil, cond_true, cond_false, aop, Zf, ev, sput, Ze, Nat.reduceBEq, Ym, List.nil_append, List.append_nil]
  refine (solve_call h6 hlen hr01 hv).mono ?_
  rintro r h1 ⟨hE1, hr⟩
  obtain ⟨d, hd⟩ : ∃ d, pdet n (rowsI n sets B) = d := ⟨_, rfl⟩
  rw [hd] at hr
  by_cases hd0 : d = 0
  · rw [if_pos hd0] at hr
    subst hr
    simp (maxSteps := 2000000) only [extr_30, extr_31, extr_32]
    refine hN2 [(0, Zd (fr : Nat)), (1, v), (2, .pointer (some ⟨pn, 0, none⟩)), (3, .pointer (some ⟨pr, 0, none⟩)), (4, .pointer (some ⟨pg, 0, none⟩)), (5, .pointer (some ⟨ps, 0, none⟩)), (6, .pointer (some ⟨pb, 0, none⟩)), (10, .slice none 0 0), (11, .int .i64 0), (12, .bool false)] _ _ ?_ (by simp (maxSteps := 2000000) only [vup, cond_true, cond_false, Nat.reduceBEq])
    clear hN2
    try clear N2
    refine Zo fun M hM => ?_
    refine Zg fun N3 hN3 => ?_
    simp (maxSteps := 2000000) only [↓Za, ↓Zb, ↓Zc, ↓vdn, vup, cond_true, cond_false, aop, Zf, ev, sput, Ze, unK, Nat.reduceBEq]
    refine hN3 [(0, Zd (fr : Nat)), (1, v), (2, .pointer (some ⟨pn, 0, none⟩)), (3, .pointer (some ⟨pr, 0, none⟩)), (4, .pointer (some ⟨pg, 0, none⟩)), (5, .pointer (some ⟨ps, 0, none⟩)), (6, .pointer (some ⟨pb, 0, none⟩)), (10, .slice none 0 0), (11, .int .i64 0), (12, .bool false), (61, .bool true)] _ _ ?_ (by simp (maxSteps := 2000000) only [vup, cond_true, cond_false, Nat.reduceBEq])
    clear hN3
    try clear N3
    refine Xd rfl ?_
    refine Zm ?_
    simp (maxSteps := 2000000) only [↓Zu, Zf, Zr, Xg]
    obtain ⟨hE, hb⟩ := mono hE1
    exact none_ _ hE hb (leaf_none (hd.trans hd0))
  rw [if_neg hd0] at hr
  obtain ⟨w, rfl, hw⟩ := hr
  obtain ⟨y, hy1, hy2, hy3⟩ := leaf_some hB (by rw [hd]; exact hd0)
  have hnum : ∀ j, j < n → (((numL n (rowsI n sets B)).getD j 0 : Int) : Rat) = y j * ((d.natAbs : Int) : Rat) := fun j hj => by
    have := numL_rat hy1 hj
    rw [hd] at this; exact this
  have hnl := numL_len n (rowsI n sets B)
  have hne : numL n (rowsI n sets B) ≠ [] := fun hc => by rw [hc] at hnl; have := ge.n1; simp at hnl; omega
  have hdp : (0 : Rat) < ((d.natAbs : Int) : Rat) := by
    have : (0 : Int) < (d.natAbs : Int) := by omega
    exact Rat.intCast_pos.2 this
  simp (maxSteps := 2000000) only [extr_30, extr_31, extr_32]
  refine hN2 [(0, Zd (fr : Nat)), (1, v), (2, .pointer (some ⟨pn, 0, none⟩)), (3, .pointer (some ⟨pr, 0, none⟩)), (4, .pointer (some ⟨pg, 0, none⟩)), (5, .pointer (some ⟨ps, 0, none⟩)), (6, .pointer (some ⟨pb, 0, none⟩)), (10, w), (11, Zd (d.natAbs : Nat)), (12, .bool true)] _ _ ?_ (by simp (maxSteps := 2000000) only [vup, cond_true, cond_false, Nat.reduceBEq])
  clear hN2
  try clear N2
  have hcor : ∀ x, Corner n sets B x → ∀ j, j < n → 0 ≤ y j := fun x hx j hj => by
    rw [← hy3 x hx j hj]; exact hx.ok.nn j hj
  refine Zo fun M hM => ?_
  refine Zg fun N4 hN4 => ?_
  simp (maxSteps := 2000000) only [↓Za, ↓Zb, ↓Zc, ↓vdn, vup, List.map_cons, List.map_nil, cond_true, cond_false, aop, Zf, ev, sput, Ze, Zw, Zy, unK, Nat.reduceBEq, tyf, Ym, List.nil_append, List.append_nil]
  refine (min_call hw hne (by omega)).mono ?_
  rintro _ h1 ⟨rfl, rfl⟩
  by_cases hneg : minT (numL n (rowsI n sets B)) (numL n (rowsI n sets B)).length < 0
  · simp (maxSteps := 2000000) only [vup, hneg]
    refine hN4 [(0, Zd (fr : Nat)), (1, v), (2, .pointer (some ⟨pn, 0, none⟩)), (3, .pointer (some ⟨pr, 0, none⟩)), (4, .pointer (some ⟨pg, 0, none⟩)), (5, .pointer (some ⟨ps, 0, none⟩)), (6, .pointer (some ⟨pb, 0, none⟩)), (10, w), (11, Zd (d.natAbs : Nat)), (12, .bool true), (61, .bool true)] _ _ ?_ (by simp (maxSteps := 2000000) only [vup, cond_true, cond_false, Nat.reduceBEq])
    clear hN4
    try clear N4
    refine Xd rfl ?_
    refine Zm ?_
    simp (maxSteps := 2000000) only [↓Zu, Zf, Zr, Xg]
    obtain ⟨hE, hb⟩ := mono hE1
    refine none_ _ hE hb fun x hx => ?_
    obtain ⟨z, hz, hz0⟩ := (minT_neg hne).1 hneg
    obtain ⟨j, hj, rfl⟩ := List.mem_iff_getElem.1 hz
    have h2 := hnum j (by omega)
    rw [List.getD, List.getElem?_eq_getElem hj, Option.getD_some] at h2
    have h3 := Rat.mul_nonneg (hcor x hx j (by omega)) (Rat.le_of_lt hdp)
    rw [← h2] at h3
    have := Rat.intCast_nonneg.1 h3
    omega
  simp (maxSteps := 2000000) only [vup, hneg]
  refine hN4 [(0, Zd (fr : Nat)), (1, v), (2, .pointer (some ⟨pn, 0, none⟩)), (3, .pointer (some ⟨pr, 0, none⟩)), (4, .pointer (some ⟨pg, 0, none⟩)), (5, .pointer (some ⟨ps, 0, none⟩)), (6, .pointer (some ⟨pb, 0, none⟩)), (10, w), (11, Zd (d.natAbs : Nat)), (12, .bool true), (61, .bool false)] _ _ ?_ (by simp (maxSteps := 2000000) only [vup, cond_true, cond_false, Nat.reduceBEq])
  clear hN4
  try clear N4
  refine Yo rfl ?_
  refine Zm ?_
  simp (maxSteps := 2000000) only [↓Zk, Zf]
  refine hM [(0, Zd (fr : Nat)), (1, v), (2, .pointer (some ⟨pn, 0, none⟩)), (3, .pointer (some ⟨pr, 0, none⟩)), (4, .pointer (some ⟨pg, 0, none⟩)), (5, .pointer (some ⟨ps, 0, none⟩)), (6, .pointer (some ⟨pb, 0, none⟩)), (10, w), (11, Zd (d.natAbs : Nat)), (12, .bool true)] _ _ ?_ (by simp (maxSteps := 2000000) only [vup, cond_true, cond_false, Nat.reduceBEq])
  clear hM
  try clear M
  obtain ⟨N, hN⟩ : ∃ N, numL n (rowsI n sets B) = N := ⟨_, rfl⟩
  rw [hN] at hw hnl hne hneg
  have hNr : ∀ j, j < n → ((N.getD j 0 : Int) : Rat) = y j * ((d.natAbs : Int) : Rat) := hN ▸ hnum
  have hN0 : ∀ j, j < n → 0 ≤ N.getD j 0 := fun j hj => Classical.byContradiction fun hc => hneg ((minT_neg hne).2 ⟨N.getD j 0, by rw [List.getD, List.getElem?_eq_getElem (by omega)]; exact List.getElem_mem _, by omega⟩)
  have hNb : ∀ j, j < n → (N.getD j 0).natAbs ≤ 720 := fun j hj => by
    have h2 : (pdet n ((rowsI n sets B).map (putR n j))).natAbs ≤ 720 := Nat.le_trans (pdet_abs n _ (by rw [List.length_map, hlen]) fun r hr y hy => by
      obtain ⟨r', hr', rfl⟩ := List.mem_map.1 hr
      rw [putR] at hy
      rcases List.mem_or_eq_of_mem_set hy with h | h
      · exact (hr01 r' hr').2 y h
      · have e1 := (hr01 r' hr').1
        rw [h, List.getD, List.getElem?_eq_getElem (by omega)]; exact (hr01 r' hr').2 _ (List.getElem_mem _)) (fact_le h6)
    rw [← hN, numL_get hj]; split <;> omega
  have hSb : ∀ k, k ≤ n → (pdet.isum (fun j => N.getD j 0) k).natAbs ≤ k * 720 := fun k hk => isum_abs fun j hj => hNb j (by omega)
  refine Zg fun N5 hN5 => ?_
  simp (maxSteps := 2000000) only [↓Za, ↓Zb, ↓Zc, vup, cond_false, aop, Zf, ev, sput, Ze, Nat.reduceBEq]
  refine hN5 [(0, Zd (fr : Nat)), (1, v), (2, .pointer (some ⟨pn, 0, none⟩)), (3, .pointer (some ⟨pr, 0, none⟩)), (4, .pointer (some ⟨pg, 0, none⟩)), (5, .pointer (some ⟨ps, 0, none⟩)), (6, .pointer (some ⟨pb, 0, none⟩)), (10, w), (11, Zd (d.natAbs : Nat)), (12, .bool true), (13, .int .i64 0)] _ _ ?_ (by simp (maxSteps := 2000000) only [vup, cond_true, cond_false, Nat.reduceBEq])
  clear hN5
  try clear N5
  refine Zo fun Z hZ => ?_
  refine Zg fun N6 hN6 => ?_
  simp (maxSteps := 2000000) only [↓Za, ↓Zb, ↓Zc, vup, List.map_cons, List.map_nil, cond_true, cond_false, aop, Zf, ev, sput, Ze, Zj, Nat.reduceBEq, tyf, hw.len, hnl]
  refine hN6 [(0, Zd (fr : Nat)), (1, v), (2, .pointer (some ⟨pn, 0, none⟩)), (3, .pointer (some ⟨pr, 0, none⟩)), (4, .pointer (some ⟨pg, 0, none⟩)), (5, .pointer (some ⟨ps, 0, none⟩)), (6, .pointer (some ⟨pb, 0, none⟩)), (10, w), (11, Zd (d.natAbs : Nat)), (12, .bool true), (13, .int .i64 0), (62, w), (63, Zd (n : Nat)), (64, .int .i64 0)] _ _ ?_ (by simp (maxSteps := 2000000) only [vup, cond_true, cond_false, Nat.reduceBEq])
  clear hN6
  try clear N6
  refine Zv ?_
  refine Zn fun Q hQ => ?_
  refine Yx (γ := Nat) (fun i => i ≤ n) (fun i => ([(0, Zd (fr : Nat)), (1, v), (2, .pointer (some ⟨pn, 0, none⟩)), (3, .pointer (some ⟨pr, 0, none⟩)), (4, .pointer (some ⟨pg, 0, none⟩)), (5, .pointer (some ⟨ps, 0, none⟩)), (6, .pointer (some ⟨pb, 0, none⟩)), (10, w), (11, Zd (d.natAbs : Nat)), (12, .bool true), (13, Zd (pdet.isum (fun j => N.getD j 0) i)), (62, w), (63, Zd (n : Nat)), (64, Zd (i : Nat))], h1)) (fun i => n - i) 0 (Nat.zero_le _) (by simp (maxSteps := 2000000) only [vup, cond_true, cond_false, Nat.reduceBEq, Int.natCast_zero, show pdet.isum (fun j => N.getD j 0) 0 = 0 from rfl]) rfl ?_
  rintro i hi
  refine Zn fun Q2 hQ2 => ?_
  simp only [l85_1]
  by_cases hin : (i : Int) < n
  · have hi' : i < n := by omega
    have hiN : i < N.length := by omega
    have hadd : addV .i64 (pdet.isum (fun j => N.getD j 0) i) (N.getD i 0) = pdet.isum (fun j => N.getD j 0) (i + 1) := by
      have h2 := hSb i hi
      have h3 := hNb i hi'
      have h4 : i * 720 ≤ 4320 := by omega
      exact addV_id (by omega) (by omega)
    refine Zg fun N7 hN7 => ?_
    simp (maxSteps := 2000000) only [↓Za, ↓Zb, ↓Zc, vup, cond_true, cond_false, aop, Zf, ev, sput, Ze, Zw, Zy, Nat.reduceBEq, hin]
    refine hN7 [(0, Zd (fr : Nat)), (1, v), (2, .pointer (some ⟨pn, 0, none⟩)), (3, .pointer (some ⟨pr, 0, none⟩)), (4, .pointer (some ⟨pg, 0, none⟩)), (5, .pointer (some ⟨ps, 0, none⟩)), (6, .pointer (some ⟨pb, 0, none⟩)), (10, w), (11, Zd (d.natAbs : Nat)), (12, .bool true), (13, Zd (pdet.isum (fun j => N.getD j 0) i)), (62, w), (63, Zd (n : Nat)), (64, Zd (i : Nat)), (65, .bool true)] _ _ ?_ (by simp (maxSteps := 2000000) only [vup, cond_true, cond_false, Nat.reduceBEq])
    clear hN7
    try clear N7
    refine Zg fun N8 hN8 => ?_
    simp (maxSteps := 2000000) only [↓Zk, ↓vdn, vup, cond_true, cond_false, Zf, ev, Nat.reduceBEq]
    refine hN8 [(0, Zd (fr : Nat)), (1, v), (2, .pointer (some ⟨pn, 0, none⟩)), (3, .pointer (some ⟨pr, 0, none⟩)), (4, .pointer (some ⟨pg, 0, none⟩)), (5, .pointer (some ⟨ps, 0, none⟩)), (6, .pointer (some ⟨pb, 0, none⟩)), (10, w), (11, Zd (d.natAbs : Nat)), (12, .bool true), (13, Zd (pdet.isum (fun j => N.getD j 0) i)), (62, w), (63, Zd (n : Nat)), (64, Zd (i : Nat))] _ _ ?_ (by simp (maxSteps := 2000000) only [vup, cond_true, cond_false, Nat.reduceBEq])
    clear hN8
    try clear N8
    refine Zo fun B hB => ?_
    refine Zv ?_
    refine Zg fun N9 hN9 => ?_
    simp (maxSteps := 2000000) only [↓Za, ↓Zb, ↓Zc, vup, cond_true, cond_false, aop, Zf, ev, sput, Ze, Nat.reduceBEq, hw.idx Xh Yw hiN, hw.load Yu hiN]
    refine hN9 [(0, Zd (fr : Nat)), (1, v), (2, .pointer (some ⟨pn, 0, none⟩)), (3, .pointer (some ⟨pr, 0, none⟩)), (4, .pointer (some ⟨pg, 0, none⟩)), (5, .pointer (some ⟨ps, 0, none⟩)), (6, .pointer (some ⟨pb, 0, none⟩)), (10, w), (11, Zd (d.natAbs : Nat)), (12, .bool true), (13, Zd (pdet.isum (fun j => N.getD j 0) i)), (15, Zd (N.getD i 0)), (62, w), (63, Zd (n : Nat)), (64, Zd (i : Nat))] _ _ ?_ (by simp (maxSteps := 2000000) only [vup, cond_true, cond_false, Nat.reduceBEq])
    clear hN9
    try clear N9
    refine Zm ?_
    simp (maxSteps := 2000000) only [↓Za, ↓Zb, ↓Zc, vup, cond_true, cond_false, aop, Zf, Zl, ev, sput, Ze, Zw, Zy, Nat.reduceBEq, hadd]
    refine hB [(0, Zd (fr : Nat)), (1, v), (2, .pointer (some ⟨pn, 0, none⟩)), (3, .pointer (some ⟨pr, 0, none⟩)), (4, .pointer (some ⟨pg, 0, none⟩)), (5, .pointer (some ⟨ps, 0, none⟩)), (6, .pointer (some ⟨pb, 0, none⟩)), (10, w), (11, Zd (d.natAbs : Nat)), (12, .bool true), (13, Zd (pdet.isum (fun j => N.getD j 0) (i + 1))), (62, w), (63, Zd (n : Nat)), (64, Zd (i : Nat))] _ _ ?_ (by simp (maxSteps := 2000000) only [vup, cond_true, cond_false, Nat.reduceBEq])
    clear hB
    try clear B
    refine Zm ?_
    simp (maxSteps := 2000000) only [↓Za, ↓Zb, ↓Zc, vup, cond_true, cond_false, aop, ev, sput, Ze, Zw, Zy, Nat.reduceBEq, Wy (show i < 9223372036854775807 by omega)]
    exact hQ2 _ _ _ ⟨i + 1, hi', by omega, by simp (maxSteps := 2000000) only [vup, cond_true, cond_false, Nat.reduceBEq], rfl⟩
  obtain rfl : n = i := by omega
  refine Zg fun N10 hN10 => ?_
  simp (maxSteps := 2000000) only [↓Za, ↓Zb, ↓Zc, vup, cond_true, cond_false, aop, Zf, ev, sput, Ze, Zw, Zy, Nat.reduceBEq, hin]
  refine hN10 [(0, Zd (fr : Nat)), (1, v), (2, .pointer (some ⟨pn, 0, none⟩)), (3, .pointer (some ⟨pr, 0, none⟩)), (4, .pointer (some ⟨pg, 0, none⟩)), (5, .pointer (some ⟨ps, 0, none⟩)), (6, .pointer (some ⟨pb, 0, none⟩)), (10, w), (11, Zd (d.natAbs : Nat)), (12, .bool true), (13, Zd (pdet.isum (fun j => N.getD j 0) n)), (62, w), (63, Zd (n : Nat)), (64, Zd (n : Nat)), (65, .bool false)] _ _ ?_ (by simp (maxSteps := 2000000) only [vup, cond_true, cond_false, Nat.reduceBEq])
  clear hN10
  try clear N10
  refine Zg fun N11 hN11 => ?_
  simp (maxSteps := 2000000) only [↓Ye, ↓vdn, vup, cond_true, cond_false, Zf, ev, Nat.reduceBEq]
  refine hQ2 _ _ _ (hQ _ _ _ ?_)
  simp (maxSteps := 2000000) only [Zf, Zl, Zr, if_true]
  obtain ⟨S, hS⟩ : ∃ S, pdet.isum (fun j => N.getD j 0) n = S := ⟨_, rfl⟩
  have hSr : ((S : Int) : Rat) = sumTo y n * ((d.natAbs : Int) : Rat) := by
    rw [← hS, isum_cast, Rat.mul_comm, ← sumTo_mul]
    exact sumTo_congr fun j hj => by rw [hNr j hj, Rat.mul_comm]
  rw [hS]
  refine hZ [(0, Zd (fr : Nat)), (1, v), (2, .pointer (some ⟨pn, 0, none⟩)), (3, .pointer (some ⟨pr, 0, none⟩)), (4, .pointer (some ⟨pg, 0, none⟩)), (5, .pointer (some ⟨ps, 0, none⟩)), (6, .pointer (some ⟨pb, 0, none⟩)), (10, w), (11, Zd (d.natAbs : Nat)), (12, .bool true), (13, Zd S)] _ _ ?_ (by simp (maxSteps := 2000000) only [vup, cond_true, cond_false, Nat.reduceBEq])
  clear hZ
  try clear Z
  clear hQ hQ2
  have hk1 : KG h0 pb h1 := hk.trans (mono hE1).1
  have hsv := ge.st h1 hk1
  have hks1 := hk1.at_ ge.sb ge.fs
  have hsl : (sets.map fun s => ((s : Nat) : Int)).length = sets.length := List.length_map ..
  have hsg : ∀ k, k < sets.length → (sets.map fun s => ((s : Nat) : Int)).getD k 0 = ((sets.getD k 0 : Nat) : Int) := fun k hk => by
    rw [List.getD, List.getElem?_map, List.getD, List.getElem?_eq_getElem hk]; rfl
  refine Zo fun Z hZ => ?_
  refine Zg fun N12 hN12 => ?_
  simp (maxSteps := 2000000) only [↓Za, ↓Zb, ↓Zc, vup, List.map_cons, List.map_nil, cond_true, cond_false, aop, Zf, ev, sput, Ze, Zj, Nat.reduceBEq, tyf, Wa hks1 Vb, hsv.len, hsl]
  refine hN12 [(0, Zd (fr : Nat)), (1, v), (2, .pointer (some ⟨pn, 0, none⟩)), (3, .pointer (some ⟨pr, 0, none⟩)), (4, .pointer (some ⟨pg, 0, none⟩)), (5, .pointer (some ⟨ps, 0, none⟩)), (6, .pointer (some ⟨pb, 0, none⟩)), (10, w), (11, Zd (d.natAbs : Nat)), (12, .bool true), (13, Zd S), (72, sv), (73, Zd sets.length), (74, .int .i64 0)] _ _ ?_ (by simp (maxSteps := 2000000) only [vup, cond_true, cond_false, Nat.reduceBEq])
  clear hN12
  try clear N12
  refine Zv ?_
  refine Zn fun Q hQ => ?_
  refine Yx (γ := Nat) (fun k => k ≤ sets.length ∧ ∀ j, j < k → dot (bitQ (sets.getD j 0)) y n ≤ 1) (fun k => ([(0, Zd (fr : Nat)), (1, v), (2, .pointer (some ⟨pn, 0, none⟩)), (3, .pointer (some ⟨pr, 0, none⟩)), (4, .pointer (some ⟨pg, 0, none⟩)), (5, .pointer (some ⟨ps, 0, none⟩)), (6, .pointer (some ⟨pb, 0, none⟩)), (10, w), (11, Zd (d.natAbs : Nat)), (12, .bool true), (13, Zd S), (72, sv), (73, Zd sets.length), (74, Zd (k : Nat))], h1)) (fun k => sets.length - k) 0 ⟨Nat.zero_le _, fun j hj => absurd hj (Nat.not_lt_zero j)⟩ (by simp (maxSteps := 2000000) only [vup, cond_true, cond_false, Nat.reduceBEq, Int.natCast_zero]) rfl ?_
  rintro k ⟨hkl, hok⟩
  refine Zn fun Q2 hQ2 => ?_
  simp only [l85_3]
  have hlS := ge.l
  by_cases hkin : (k : Int) < sets.length
  · have hk' : k < sets.length := by omega
    have hkS : k < (sets.map fun s => ((s : Nat) : Int)).length := by omega
    obtain ⟨s, hs⟩ : ∃ s, sets.getD k 0 = s := ⟨_, rfl⟩
    have hsm : s ∈ sets := hs ▸ getD_in hk'
    have hs2 : s < 64 := Nat.lt_of_lt_of_le (ge.lt s hsm) (show 2 ^ n ≤ 2 ^ 6 from Nat.pow_le_pow_right (by decide) h6)
    obtain ⟨F, hF⟩ : ∃ F : Nat → Int, F = fun j => (if s.testBit j then 1 else 0) * N.getD j 0 := ⟨_, rfl⟩
    have hFb : ∀ j, j < n → (F j).natAbs ≤ 720 := fun j hj => by
      rw [hF]
      have := hNb j hj
      simp only
      split
      · rw [Int.one_mul]; exact this
      · simp
    have hFs : ∀ i, i ≤ n → (pdet.isum F i).natAbs ≤ i * 720 := fun i hi => isum_abs fun j hj => hFb j (by omega)
    have hg := hsg k hk'
    rw [hs] at hg
    refine Zg fun N13 hN13 => ?_
    simp (maxSteps := 2000000) only [↓Za, ↓Zb, ↓Zc, vup, cond_true, cond_false, aop, Zf, ev, sput, Ze, Zw, Zy, Nat.reduceBEq, hkin]
    refine hN13 [(0, Zd (fr : Nat)), (1, v), (2, .pointer (some ⟨pn, 0, none⟩)), (3, .pointer (some ⟨pr, 0, none⟩)), (4, .pointer (some ⟨pg, 0, none⟩)), (5, .pointer (some ⟨ps, 0, none⟩)), (6, .pointer (some ⟨pb, 0, none⟩)), (10, w), (11, Zd (d.natAbs : Nat)), (12, .bool true), (13, Zd S), (72, sv), (73, Zd sets.length), (74, Zd (k : Nat)), (75, .bool true)] _ _ ?_ (by simp (maxSteps := 2000000) only [vup, cond_true, cond_false, Nat.reduceBEq])
    clear hN13
    try clear N13
    refine Zg fun N14 hN14 => ?_
    simp (maxSteps := 2000000) only [↓Zk, ↓vdn, vup, cond_true, cond_false, Zf, ev, Nat.reduceBEq]
    refine hN14 [(0, Zd (fr : Nat)), (1, v), (2, .pointer (some ⟨pn, 0, none⟩)), (3, .pointer (some ⟨pr, 0, none⟩)), (4, .pointer (some ⟨pg, 0, none⟩)), (5, .pointer (some ⟨ps, 0, none⟩)), (6, .pointer (some ⟨pb, 0, none⟩)), (10, w), (11, Zd (d.natAbs : Nat)), (12, .bool true), (13, Zd S), (72, sv), (73, Zd sets.length), (74, Zd (k : Nat))] _ _ ?_ (by simp (maxSteps := 2000000) only [vup, cond_true, cond_false, Nat.reduceBEq])
    clear hN14
    try clear N14
    refine Zo fun B hB => ?_
    refine Zv ?_
    refine Zg fun N15 hN15 => ?_
    simp (maxSteps := 2000000) only [↓Za, ↓Zb, ↓Zc, vup, cond_true, cond_false, aop, Zf, ev, sput, Ze, Nat.reduceBEq, hsv.idx Xh Yw hkS, hsv.load Yu hkS, hg]
    refine hN15 [(0, Zd (fr : Nat)), (1, v), (2, .pointer (some ⟨pn, 0, none⟩)), (3, .pointer (some ⟨pr, 0, none⟩)), (4, .pointer (some ⟨pg, 0, none⟩)), (5, .pointer (some ⟨ps, 0, none⟩)), (6, .pointer (some ⟨pb, 0, none⟩)), (10, w), (11, Zd (d.natAbs : Nat)), (12, .bool true), (13, Zd S), (17, Zd (s : Nat)), (72, sv), (73, Zd sets.length), (74, Zd (k : Nat))] _ _ ?_ (by simp (maxSteps := 2000000) only [vup, cond_true, cond_false, Nat.reduceBEq])
    clear hN15
    try clear N15
    refine Zg fun N16 hN16 => ?_
    simp (maxSteps := 2000000) only [↓Za, ↓Zb, ↓Zc, vup, cond_false, aop, Zf, ev, sput, Ze, Nat.reduceBEq]
    refine hN16 [(0, Zd (fr : Nat)), (1, v), (2, .pointer (some ⟨pn, 0, none⟩)), (3, .pointer (some ⟨pr, 0, none⟩)), (4, .pointer (some ⟨pg, 0, none⟩)), (5, .pointer (some ⟨ps, 0, none⟩)), (6, .pointer (some ⟨pb, 0, none⟩)), (10, w), (11, Zd (d.natAbs : Nat)), (12, .bool true), (13, Zd S), (17, Zd (s : Nat)), (18, .int .i64 0), (72, sv), (73, Zd sets.length), (74, Zd (k : Nat))] _ _ ?_ (by simp (maxSteps := 2000000) only [vup, cond_true, cond_false, Nat.reduceBEq])
    clear hN16
    try clear N16
    refine Zo fun D hD => ?_
    refine Zg fun N17 hN17 => ?_
    simp (maxSteps := 2000000) only [↓Za, ↓Zb, ↓Zc, vup, List.map_cons, List.map_nil, cond_true, cond_false, aop, Zf, ev, sput, Ze, Zj, Nat.reduceBEq, tyf, hw.len, hnl]
    refine hN17 [(0, Zd (fr : Nat)), (1, v), (2, .pointer (some ⟨pn, 0, none⟩)), (3, .pointer (some ⟨pr, 0, none⟩)), (4, .pointer (some ⟨pg, 0, none⟩)), (5, .pointer (some ⟨ps, 0, none⟩)), (6, .pointer (some ⟨pb, 0, none⟩)), (10, w), (11, Zd (d.natAbs : Nat)), (12, .bool true), (13, Zd S), (17, Zd (s : Nat)), (18, .int .i64 0), (72, sv), (73, Zd sets.length), (74, Zd (k : Nat)), (78, w), (79, Zd (n : Nat)), (80, .int .i64 0)] _ _ ?_ (by simp (maxSteps := 2000000) only [vup, cond_true, cond_false, Nat.reduceBEq])
    clear hN17
    try clear N17
    refine Zv ?_
    refine Zn fun Qa hQa => ?_
    refine Yx (γ := Nat) (fun i => i ≤ n) (fun i => ([(0, Zd (fr : Nat)), (1, v), (2, .pointer (some ⟨pn, 0, none⟩)), (3, .pointer (some ⟨pr, 0, none⟩)), (4, .pointer (some ⟨pg, 0, none⟩)), (5, .pointer (some ⟨ps, 0, none⟩)), (6, .pointer (some ⟨pb, 0, none⟩)), (10, w), (11, Zd (d.natAbs : Nat)), (12, .bool true), (13, Zd S), (17, Zd (s : Nat)), (18, Zd (pdet.isum F i)), (72, sv), (73, Zd sets.length), (74, Zd (k : Nat)), (78, w), (79, Zd (n : Nat)), (80, Zd (i : Nat))], h1)) (fun i => n - i) 0 (Nat.zero_le _) (by simp (maxSteps := 2000000) only [vup, cond_true, cond_false, Nat.reduceBEq, Int.natCast_zero, show pdet.isum F 0 = 0 from rfl]) rfl ?_
    rintro i hi
    refine Zn fun Qb hQb => ?_
    simp only [l85_2]
    by_cases hin2 : (i : Int) < n
    · have hi' : i < n := by omega
      have hiN : i < N.length := by omega
      have htst := @testV s i (by omega)
      have h3 := hNb i hi'
      have hmul : mulV .i64 (if s.testBit i then 1 else 0) (N.getD i 0) = F i := by
        have e : F i = (if s.testBit i = true then 1 else 0) * N.getD i 0 := by rw [hF]
        rw [e]
        split <;> exact mulV_id (by omega) (by omega)
      have hadd : addV .i64 (pdet.isum F i) (F i) = pdet.isum F (i + 1) := by
        have h2 := hFs i hi
        have h5 := hFb i hi'
        have h4 : i * 720 ≤ 4320 := by omega
        exact addV_id (by omega) (by omega)
      refine Zg fun N18 hN18 => ?_
      simp (maxSteps := 2000000) only [↓Za, ↓Zb, ↓Zc, vup, cond_true, cond_false, aop, Zf, ev, sput, Ze, Zw, Zy, Nat.reduceBEq, hin2]
      refine hN18 [(0, Zd (fr : Nat)), (1, v), (2, .pointer (some ⟨pn, 0, none⟩)), (3, .pointer (some ⟨pr, 0, none⟩)), (4, .pointer (some ⟨pg, 0, none⟩)), (5, .pointer (some ⟨ps, 0, none⟩)), (6, .pointer (some ⟨pb, 0, none⟩)), (10, w), (11, Zd (d.natAbs : Nat)), (12, .bool true), (13, Zd S), (17, Zd (s : Nat)), (18, Zd (pdet.isum F i)), (72, sv), (73, Zd sets.length), (74, Zd (k : Nat)), (78, w), (79, Zd (n : Nat)), (80, Zd (i : Nat)), (81, .bool true)] _ _ ?_ (by simp (maxSteps := 2000000) only [vup, cond_true, cond_false, Nat.reduceBEq])
      clear hN18
      try clear N18
      refine Zg fun N19 hN19 => ?_
      simp (maxSteps := 2000000) only [↓Zk, ↓vdn, vup, cond_true, cond_false, Zf, ev, Nat.reduceBEq]
      refine hN19 [(0, Zd (fr : Nat)), (1, v), (2, .pointer (some ⟨pn, 0, none⟩)), (3, .pointer (some ⟨pr, 0, none⟩)), (4, .pointer (some ⟨pg, 0, none⟩)), (5, .pointer (some ⟨ps, 0, none⟩)), (6, .pointer (some ⟨pb, 0, none⟩)), (10, w), (11, Zd (d.natAbs : Nat)), (12, .bool true), (13, Zd S), (17, Zd (s : Nat)), (18, Zd (pdet.isum F i)), (72, sv), (73, Zd sets.length), (74, Zd (k : Nat)), (78, w), (79, Zd (n : Nat)), (80, Zd (i : Nat))] _ _ ?_ (by simp (maxSteps := 2000000) only [vup, cond_true, cond_false, Nat.reduceBEq])
      clear hN19
      try clear N19
      refine Zo fun E hE => ?_
      refine Zv ?_
      refine Zg fun N20 hN20 => ?_
      simp (maxSteps := 2000000) only [↓Za, ↓Zb, ↓Zc, vup, cond_true, cond_false, aop, Zf, ev, sput, Ze, Nat.reduceBEq, hw.idx Xh Yw hiN, hw.load Yu hiN]
      refine hN20 [(0, Zd (fr : Nat)), (1, v), (2, .pointer (some ⟨pn, 0, none⟩)), (3, .pointer (some ⟨pr, 0, none⟩)), (4, .pointer (some ⟨pg, 0, none⟩)), (5, .pointer (some ⟨ps, 0, none⟩)), (6, .pointer (some ⟨pb, 0, none⟩)), (10, w), (11, Zd (d.natAbs : Nat)), (12, .bool true), (13, Zd S), (17, Zd (s : Nat)), (18, Zd (pdet.isum F i)), (19, Zd (i : Nat)), (20, Zd (N.getD i 0)), (72, sv), (73, Zd sets.length), (74, Zd (k : Nat)), (78, w), (79, Zd (n : Nat)), (80, Zd (i : Nat))] _ _ ?_ (by simp (maxSteps := 2000000) only [vup, cond_true, cond_false, Nat.reduceBEq])
      clear hN20
      try clear N20
      refine Zm ?_
      simp (maxSteps := 2000000) only [↓Za, ↓Zb, ↓Zc, vup, cond_true, cond_false, aop, Zf, Zl, ev, sput, Ze, Zw, Zy, Nat.reduceBEq, Int.natCast_nonneg, htst, hmul, hadd]
      refine hE [(0, Zd (fr : Nat)), (1, v), (2, .pointer (some ⟨pn, 0, none⟩)), (3, .pointer (some ⟨pr, 0, none⟩)), (4, .pointer (some ⟨pg, 0, none⟩)), (5, .pointer (some ⟨ps, 0, none⟩)), (6, .pointer (some ⟨pb, 0, none⟩)), (10, w), (11, Zd (d.natAbs : Nat)), (12, .bool true), (13, Zd S), (17, Zd (s : Nat)), (18, Zd (pdet.isum F (i + 1))), (72, sv), (73, Zd sets.length), (74, Zd (k : Nat)), (78, w), (79, Zd (n : Nat)), (80, Zd (i : Nat))] _ _ ?_ (by simp (maxSteps := 2000000) only [vup, cond_true, cond_false, Nat.reduceBEq])
      clear hE
      try clear E
      refine Zm ?_
      simp (maxSteps := 2000000) only [↓Za, ↓Zb, ↓Zc, vup, cond_true, cond_false, aop, ev, sput, Ze, Zw, Zy, Nat.reduceBEq, Wy (show i < 9223372036854775807 by omega)]
      exact hQb _ _ _ ⟨i + 1, hi', by omega, by simp (maxSteps := 2000000) only [vup, cond_true, cond_false, Nat.reduceBEq], rfl⟩
    obtain rfl : n = i := by omega
    refine Zg fun N21 hN21 => ?_
    simp (maxSteps := 2000000) only [↓Za, ↓Zb, ↓Zc, vup, cond_true, cond_false, aop, Zf, ev, sput, Ze, Zw, Zy, Nat.reduceBEq, hin2]
    refine hN21 [(0, Zd (fr : Nat)), (1, v), (2, .pointer (some ⟨pn, 0, none⟩)), (3, .pointer (some ⟨pr, 0, none⟩)), (4, .pointer (some ⟨pg, 0, none⟩)), (5, .pointer (some ⟨ps, 0, none⟩)), (6, .pointer (some ⟨pb, 0, none⟩)), (10, w), (11, Zd (d.natAbs : Nat)), (12, .bool true), (13, Zd S), (17, Zd (s : Nat)), (18, Zd (pdet.isum F n)), (72, sv), (73, Zd sets.length), (74, Zd (k : Nat)), (78, w), (79, Zd (n : Nat)), (80, Zd (n : Nat)), (81, .bool false)] _ _ ?_ (by simp (maxSteps := 2000000) only [vup, cond_true, cond_false, Nat.reduceBEq])
    clear hN21
    try clear N21
    refine Zg fun N22 hN22 => ?_
    simp (maxSteps := 2000000) only [↓Ye, ↓vdn, vup, cond_true, cond_false, Zf, ev, Nat.reduceBEq]
    refine hQb _ _ _ (hQa _ _ _ ?_)
    simp (maxSteps := 2000000) only [Zf, Zl, if_true]
    obtain ⟨T, hT⟩ : ∃ T, pdet.isum F n = T := ⟨_, rfl⟩
    have hTr : ((T : Int) : Rat) = dot (bitQ s) y n * ((d.natAbs : Int) : Rat) := by
      rw [← hT, isum_cast, dot, Rat.mul_comm, ← sumTo_mul]
      refine sumTo_congr fun j hj => ?_
      rw [hF]
      simp only
      rw [Rat.intCast_mul, hNr j hj, bitQ]
      split
      · rw [show ((1 : Int) : Rat) = 1 from rfl]; grind
      · rw [show ((0 : Int) : Rat) = 0 from rfl]; grind
    rw [hT]
    refine hD [(0, Zd (fr : Nat)), (1, v), (2, .pointer (some ⟨pn, 0, none⟩)), (3, .pointer (some ⟨pr, 0, none⟩)), (4, .pointer (some ⟨pg, 0, none⟩)), (5, .pointer (some ⟨ps, 0, none⟩)), (6, .pointer (some ⟨pb, 0, none⟩)), (10, w), (11, Zd (d.natAbs : Nat)), (12, .bool true), (13, Zd S), (17, Zd (s : Nat)), (18, Zd T), (72, sv), (73, Zd sets.length), (74, Zd (k : Nat))] _ _ ?_ (by simp (maxSteps := 2000000) only [vup, cond_true, cond_false, Nat.reduceBEq])
    clear hD
    try clear D
    clear hQa hQb
    by_cases hgt : T > (d.natAbs : Int)
    · refine Zg fun N23 hN23 => ?_
      simp (maxSteps := 2000000) only [↓Za, ↓Zb, ↓Zc, vup, cond_true, cond_false, aop, Zf, ev, sput, Ze, Zw, Zy, Nat.reduceBEq, hgt]
      refine hN23 [(0, Zd (fr : Nat)), (1, v), (2, .pointer (some ⟨pn, 0, none⟩)), (3, .pointer (some ⟨pr, 0, none⟩)), (4, .pointer (some ⟨pg, 0, none⟩)), (5, .pointer (some ⟨ps, 0, none⟩)), (6, .pointer (some ⟨pb, 0, none⟩)), (10, w), (11, Zd (d.natAbs : Nat)), (12, .bool true), (13, Zd S), (17, Zd (s : Nat)), (18, Zd T), (72, sv), (73, Zd sets.length), (74, Zd (k : Nat)), (96, .bool true)] _ _ ?_ (by simp (maxSteps := 2000000) only [vup, cond_true, cond_false, Nat.reduceBEq])
      clear hN23
      try clear N23
      refine Xd rfl ?_
      refine Zm ?_
      simp (maxSteps := 2000000) only [↓Zu, Zf, Zl]
      refine hQ2 _ _ _ (hQ _ _ _ ?_)
      simp (maxSteps := 2000000) only [Zf, Zl, Zr, Xg]
      obtain ⟨hE, hb⟩ := mono hE1
      refine none_ _ hE hb fun x hx => ?_
      have h2 := hx.ok.le s hsm
      have h3 : dot (bitQ s) x n = dot (bitQ s) y n := sumTo_congr fun j hj => by rw [hy3 x hx j hj]
      rw [h3] at h2
      have h4 : ((T : Int) : Rat) ≤ ((d.natAbs : Int) : Rat) := by
        rw [hTr]
        have := Rat.mul_le_mul_of_nonneg_right h2 (Rat.le_of_lt hdp)
        rwa [Rat.one_mul] at this
      have := Rat.intCast_le_intCast.1 h4
      omega
    refine Zg fun N24 hN24 => ?_
    simp (maxSteps := 2000000) only [↓Za, ↓Zb, ↓Zc, vup, cond_true, cond_false, aop, Zf, ev, sput, Ze, Zw, Zy, Nat.reduceBEq, hgt]
    refine hN24 [(0, Zd (fr : Nat)), (1, v), (2, .pointer (some ⟨pn, 0, none⟩)), (3, .pointer (some ⟨pr, 0, none⟩)), (4, .pointer (some ⟨pg, 0, none⟩)), (5, .pointer (some ⟨ps, 0, none⟩)), (6, .pointer (some ⟨pb, 0, none⟩)), (10, w), (11, Zd (d.natAbs : Nat)), (12, .bool true), (13, Zd S), (17, Zd (s : Nat)), (18, Zd T), (72, sv), (73, Zd sets.length), (74, Zd (k : Nat)), (96, .bool false)] _ _ ?_ (by simp (maxSteps := 2000000) only [vup, cond_true, cond_false, Nat.reduceBEq])
    clear hN24
    try clear N24
    refine Yo rfl ?_
    refine Zm ?_
    simp (maxSteps := 2000000) only [↓Zk, Zf, Zl]
    refine hB [(0, Zd (fr : Nat)), (1, v), (2, .pointer (some ⟨pn, 0, none⟩)), (3, .pointer (some ⟨pr, 0, none⟩)), (4, .pointer (some ⟨pg, 0, none⟩)), (5, .pointer (some ⟨ps, 0, none⟩)), (6, .pointer (some ⟨pb, 0, none⟩)), (10, w), (11, Zd (d.natAbs : Nat)), (12, .bool true), (13, Zd S), (72, sv), (73, Zd sets.length), (74, Zd (k : Nat))] _ _ ?_ (by simp (maxSteps := 2000000) only [vup, cond_true, cond_false, Nat.reduceBEq])
    clear hB
    try clear B
    refine Zm ?_
    simp (maxSteps := 2000000) only [↓Za, ↓Zb, ↓Zc, vup, cond_true, cond_false, aop, ev, sput, Ze, Zw, Zy, Nat.reduceBEq, Wy (show k < 9223372036854775807 by omega)]
    refine hQ2 _ _ _ ⟨k + 1, ⟨hk', fun j hj => ?_⟩, by omega, by simp (maxSteps := 2000000) only [vup, cond_true, cond_false, Nat.reduceBEq], rfl⟩
    by_cases hjk : j = k
    · rw [hjk, hs]
      have h4 : ((T : Int) : Rat) ≤ ((d.natAbs : Int) : Rat) := Rat.intCast_le_intCast.2 (by omega)
      rw [hTr] at h4
      refine Classical.byContradiction fun hc => ?_
      have h5 : (1 : Rat) < dot (bitQ s) y n := Rat.not_le.1 hc
      have h6' := Rat.mul_lt_mul_of_pos_right h5 hdp
      rw [Rat.one_mul] at h6'
      exact absurd h4 (Rat.not_le.2 h6')
    · exact hok j (by omega)
  obtain rfl : k = sets.length := by omega
  refine Zg fun N25 hN25 => ?_
  simp (maxSteps := 2000000) only [↓Za, ↓Zb, ↓Zc, vup, cond_true, cond_false, aop, Zf, ev, sput, Ze, Zw, Zy, Nat.reduceBEq, hkin]
  refine hN25 [(0, Zd (fr : Nat)), (1, v), (2, .pointer (some ⟨pn, 0, none⟩)), (3, .pointer (some ⟨pr, 0, none⟩)), (4, .pointer (some ⟨pg, 0, none⟩)), (5, .pointer (some ⟨ps, 0, none⟩)), (6, .pointer (some ⟨pb, 0, none⟩)), (10, w), (11, Zd (d.natAbs : Nat)), (12, .bool true), (13, Zd S), (72, sv), (73, Zd sets.length), (74, Zd sets.length), (75, .bool false)] _ _ ?_ (by simp (maxSteps := 2000000) only [vup, cond_true, cond_false, Nat.reduceBEq])
  clear hN25
  try clear N25
  refine Zg fun N26 hN26 => ?_
  simp (maxSteps := 2000000) only [↓Ye, ↓vdn, vup, cond_true, cond_false, Zf, ev, Nat.reduceBEq]
  refine hQ2 _ _ _ (hQ _ _ _ ?_)
  simp (maxSteps := 2000000) only [Zf, Zl, Zr, if_true]
  refine hZ [(0, Zd (fr : Nat)), (1, v), (2, .pointer (some ⟨pn, 0, none⟩)), (3, .pointer (some ⟨pr, 0, none⟩)), (4, .pointer (some ⟨pg, 0, none⟩)), (5, .pointer (some ⟨ps, 0, none⟩)), (6, .pointer (some ⟨pb, 0, none⟩)), (10, w), (11, Zd (d.natAbs : Nat)), (12, .bool true), (13, Zd S)] _ _ ?_ (by simp (maxSteps := 2000000) only [vup, cond_true, cond_false, Nat.reduceBEq])
  clear hZ
  try clear Z
  clear hQ hQ2
  have hpf : PFeas n sets y := ⟨fun j hj => Classical.byContradiction fun hc => by
    have h2 : y j < 0 := Rat.not_le.1 hc
    have h3 := Rat.mul_lt_mul_of_pos_right h2 hdp
    rw [Rat.zero_mul, ← hNr j hj] at h3
    have := hN0 j hj
    have h4 : (0 : Rat) ≤ ((N.getD j 0 : Int) : Rat) := Rat.intCast_nonneg.2 this
    exact absurd h4 (Rat.not_le.2 h3), fun s hs => by
    obtain ⟨j, hj, rfl⟩ := List.mem_iff_getElem.1 hs
    have := hok j hj
    rwa [List.getD, List.getElem?_eq_getElem hj] at this⟩
  have hab : d.natAbs ≤ 720 := by rw [← hd]; exact Nat.le_trans (pdet_abs n _ hlen fun r hr => (hr01 r hr).2) (fact_le h6)
  have hSa : S.natAbs ≤ 4320 := by rw [← hS]; exact Nat.le_trans (hSb n (Nat.le_refl n)) (by omega)
  obtain ⟨f, hf⟩ : ∃ f, f = Rat.divInt S d.natAbs := ⟨_, rfl⟩
  have hfy : f = sumTo y n := by
    have hne0 : (((d.natAbs : Nat) : Int) : Rat) ≠ 0 := fun h => by rw [h] at hdp; exact absurd hdp (by decide)
    rw [hf, Rat.divInt_eq_div, hSr, Rat.div_def, Rat.mul_assoc, Rat.mul_inv_cancel _ hne0, Rat.mul_one]
  have hfn : f.num.natAbs ≤ 4320 ∧ f.den ≤ 720 := by
    obtain ⟨t1, t2⟩ := terms (x := S) (n := d.natAbs) (by omega)
    rw [← hf] at t1 t2
    have hg := Nat.gcd_pos_of_pos_right S.natAbs (show 0 < d.natAbs by omega)
    refine ⟨?_, ?_⟩
    · rw [← t1, Int.natAbs_ediv_of_dvd (gcd_dvd_int S d.natAbs)]
      exact Nat.le_trans (Nat.div_le_self _ _) hSa
    · have : d.natAbs / Nat.gcd S.natAbs d.natAbs ≤ d.natAbs := Nat.div_le_self _ _
      omega
  have hfr := frac_call (h := h1) (a := S) (b := ((d.natAbs : Nat) : Int)) (by omega) (by omega) (by omega)
  rw [← hf] at hfr
  have hb1 : h1[pb]? = some (bC q) := (mono hE1).2
  obtain ⟨G, hG⟩ : ∃ G, G = h1 ++ [bC f] := ⟨_, rfl⟩
  have hGf : G[h1.length]? = some (bC f) := by rw [hG]; exact Xa _ _
  have hGb : G[pb]? = some (bC q) := by rw [hG]; exact Va hb1 _
  have hEG : Ext (fun _ => False) h G := by rw [hG]; exact hE1.trans (Ext.app _ _ _)
  have hst : ∀ {K : Zh → Prop}, Xi prog (h1 ++ [Blk.cells [.int .i64 0, .int .i64 0] 44 false]) 44 (.pointer (some ⟨h1.length, 0, none⟩)) (.agg #[Zd f.num, Zd f.den]) K = K G := fun {K} => by
    rw [storeF (Xa h1 (Blk.cells [.int .i64 0, .int .i64 0] 44 false)) rfl, set_new, hG]; rfl
  refine Zg fun N27 hN27 => ?_
  simp (maxSteps := 2000000) only [↓Za, ↓Zb, ↓Zc, vup, List.map_cons, List.map_nil, cond_true, cond_false, aop, Zf, ev, sput, Ze, Nat.reduceBEq, Ym, List.nil_append, List.append_nil]
  refine hfr.mono ?_
  rintro _ h1' ⟨rfl, rfl⟩
  simp (maxSteps := 2000000) only [tyf, Wn, Xn, qV, frV, hst]
  refine hN27 [(0, Zd (fr : Nat)), (1, v), (2, .pointer (some ⟨pn, 0, none⟩)), (3, .pointer (some ⟨pr, 0, none⟩)), (4, .pointer (some ⟨pg, 0, none⟩)), (5, .pointer (some ⟨ps, 0, none⟩)), (6, .pointer (some ⟨pb, 0, none⟩)), (10, w), (11, Zd (d.natAbs : Nat)), (12, .bool true), (13, Zd S), (21, .pointer (some ⟨h1'.length, 0, none⟩))] _ _ ?_ (by simp (maxSteps := 2000000) only [vup, cond_true, cond_false, Nat.reduceBEq])
  clear hN27
  try clear N27
  have hl1 : (q.num * f.den).natAbs ≤ 4320 * 720 := by
    rw [Int.natAbs_mul]; exact Nat.mul_le_mul ha.2.1 (by simpa using hfn.2)
  have hl2 : (f.num * q.den).natAbs ≤ 4320 * 720 := by
    rw [Int.natAbs_mul]; exact Nat.mul_le_mul hfn.1 (by simpa using ha.2.2)
  have hls := less_call (h := G) (a := q.num) (b := q.den) (c := f.num) (d := f.den) (by omega) (by omega)
  have hlt : (q.num * f.den < f.num * q.den) ↔ q < f := (Rat.lt_iff q f).symm
  refine Zg fun N28 hN28 => ?_
  simp (maxSteps := 2000000) only [↓Za, ↓Zb, ↓Zc, vup, List.map_cons, List.map_nil, cond_true, cond_false, aop, Zf, ev, sput, Ze, Nat.reduceBEq, loadF hGb, loadF hGf, Ym, List.nil_append, List.append_nil]
  refine hls.mono ?_
  rintro _ G' ⟨rfl, rfl⟩
  refine hN28 [(0, Zd (fr : Nat)), (1, v), (2, .pointer (some ⟨pn, 0, none⟩)), (3, .pointer (some ⟨pr, 0, none⟩)), (4, .pointer (some ⟨pg, 0, none⟩)), (5, .pointer (some ⟨ps, 0, none⟩)), (6, .pointer (some ⟨pb, 0, none⟩)), (10, w), (11, Zd (d.natAbs : Nat)), (12, .bool true), (13, Zd S), (21, .pointer (some ⟨h1'.length, 0, none⟩)), (103, .bool (decide (q.num * f.den < f.num * q.den)))] _ _ ?_ (by simp (maxSteps := 2000000) only [vup, cond_true, cond_false, Nat.reduceBEq])
  clear hN28
  try clear N28
  have fin : ∀ (h' : Zh) (q' : Rat), Ext (fun b => b = pb) h h' → h'[pb]? = some (bC q') → Att n sets q' → q ≤ q' → f ≤ q' → GR n sets pb h q B fr 0 h' := fun h' q' hE hb hat hq' hf' =>
    ⟨hE, q', hb, hat, hq', fun t _ ht x hx => by
      obtain rfl : t = [] := List.length_eq_zero_iff.1 ht
      rw [List.append_nil] at hx
      have : sumTo x n = sumTo y n := sumTo_congr fun j hj => hy3 x hx j hj
      rw [this, ← hfy]; exact hf'⟩
  by_cases hqf : q < f
  · rw [decide_eq_true (hlt.2 hqf)]
    refine Xd rfl ?_
    refine Zm ?_
    simp (maxSteps := 2000000) only [↓Za, ↓Zb, ↓Zc, vup, cond_true, cond_false, aop, ev, sput, Ze, Nat.reduceBEq, Zr, Xg, loadF hGf, storeF hGb rfl]
    exact fin _ f ((mono hEG).1.trans (Ext.set _ rfl)) (Wh (Yp hGb) _) ⟨⟨y, hpf, hfy.symm⟩, hfn⟩ (Rat.le_of_lt hqf) Rat.le_refl
  · rw [decide_eq_false (fun h => hqf (hlt.1 h))]
    refine Yo rfl ?_
    refine Zm ?_
    simp (maxSteps := 2000000) only [↓Zk, Zr, Xg]
    exact fin _ q (mono hEG).1 hGb ha Rat.le_refl (Rat.not_lt.1 hqf)
end Go.Proofs.Tryd.Am

namespace Go.Proofs.Tryd.Am
open Go.Am Bq
set_option maxRecDepth 100000
set_option maxHeartbeats 4000000

theorem each_map {R : Value → List Int → Prop} {f : Nat → Value} {g : Nat → List Int} : ∀ {B : List Nat}, (∀ k ∈ B, R (f k) (g k)) → Each R (B.map f) (B.map g)
  | [], _ => trivial
  | k :: B, h => ⟨h k (by simp), each_map fun k hk => h k (by simp [hk])⟩
theorem GE.row {n : Nat} {sets : List Nat} {rws : List Value} {h0 H : Zh} {pn pr pg ps pb : Nat} {rv sv : Value} (ge : GE n sets rws h0 pn pr pg ps pb rv sv) (hk : KG h0 pb H) {k : Nat} (h : k < sets.length + n) : IntSl H (rws.getD k undef) (rowI n sets k) := by
  have := (ge.rows H hk).2.get undef [] (k := k) (by simpa using h)
  rwa [List.getD, List.getD, List.getElem?_map, List.getElem?_range h] at this
theorem buildSlW {P : Program} {h : Zh} {w : Value} {t e : TypeId} (he : elemOf' P t = some e) (hz : Xv P e = some [.slice none 0 0]) (hs : esz P e = some 1) {xs : List Int} (hw : IntSl h w xs) {K : Value → Zh → Prop} :
    Yj P h t 1 [(0, w)] K = K (.slice (some ⟨h.length, 0, none⟩) 1 1) (h ++ [.cells [w] e false]) := by
  have e1 : fillL (fun i => some (i * 1, 1)) (reps [.slice none 0 0] 1) [(0, w)] = some [w] := by
    rcases hw with ⟨rfl, rfl⟩ | ⟨b, o, sp, cap, c, e', ro, rfl, _⟩ <;> simp [fillL, Wx, cellsOf, reps, Yg]
  have e2 : mkb [w] e = .cells [w] e false := mkb_no (by simp) fun w' hw' => by
    rw [List.mem_singleton.1 hw']; exact (intSl_notI hw).1
  simp only [Yj, he, hz, hs, e1, e2]
  exact propext ⟨fun h => h.2.2.2, fun h => ⟨rfl, by decide, by decide, h⟩⟩
theorem grow_call [Tabs prog] {n : Nat} {sets : List Nat} {rws : List Value} {h0 : Zh} {pn pr pg ps pb : Nat} {rv sv : Value} (ge : GE n sets rws h0 pn pr pg ps pb rv sv) : ∀ (d fr : Nat) (B : List Nat) (h : Zh) (v : Value) (q : Rat), B.length + d = n → KG h0 pb h → OwnV 22 h v (B.map fun k => rws.getD k undef) →
    (∀ k ∈ B, k < sets.length + n) → fr ≤ sets.length + n → h[pb]? = some (bC q) → Att n sets q →
    ACall prog 85 [Zd (fr : Nat), v, .pointer (some ⟨pn, 0, none⟩), .pointer (some ⟨pr, 0, none⟩), .pointer (some ⟨pg, 0, none⟩), .pointer (some ⟨ps, 0, none⟩), .pointer (some ⟨pb, 0, none⟩)] h fun _ h' => GR n sets pb h q B fr d h' := by
  intro d
  induction d with
  | zero =>
    intro fr B h v q hB hk ho hBm hfr hq ha
    exact leaf_call ge (by omega) hk ⟨_, ho.val, each_map fun k hkB => ge.row hk (hBm k hkB)⟩ hq ha fun x hx => by rw [List.append_nil]; exact hx
  | succ d ih =>
    intro fr B h v q hB hk ho hBm hfr hq ha
    have hn6 := ge.n6
    have hlS := ge.l
    have hlt : (B.length : Int) < n := by omega
    have hml : (B.map fun k => rws.getD k undef).length = B.length := List.length_map ..
    refine s85_callW (by simp) ?_
    simp only [s85]
    refine Zo fun M hM => ?_
    refine Zg fun N1 hN1 => ?_
    simp (maxSteps := 2000000) only [↓Za, ↓Zb, ↓Zc, vup, List.map_cons, List.map_nil, cond_true, cond_false, aop, Zf, Zp, ev, sput, Ze, Zw, Zy, Zj, Nat.reduceBEq, Nat.reduceAdd, tyf, ho.val.len, hml, Wa (hk.at_ ge.nb ge.fn) Yu, hlt]
    refine hN1 [(0, Zd (fr : Nat)), (1, v), (2, .pointer (some ⟨pn, 0, none⟩)), (3, .pointer (some ⟨pr, 0, none⟩)), (4, .pointer (some ⟨pg, 0, none⟩)), (5, .pointer (some ⟨ps, 0, none⟩)), (6, .pointer (some ⟨pb, 0, none⟩)), (25, .bool true)] _ _ ?_ (by simp (maxSteps := 2000000) only [vup, cond_true, cond_false, Nat.reduceBEq])
    clear hN1
    try clear N1
    refine Xd rfl ?_
    refine Zo fun Z hZ => ?_
    refine Zg fun N2 hN2 => ?_
    simp (maxSteps := 2000000) only [↓Za, ↓Zb, ↓Zc, vup, cond_true, cond_false, aop, Zf, ev, sput, Ze, Nat.reduceBEq]
    refine hN2 [(0, Zd (fr : Nat)), (1, v), (2, .pointer (some ⟨pn, 0, none⟩)), (3, .pointer (some ⟨pr, 0, none⟩)), (4, .pointer (some ⟨pg, 0, none⟩)), (5, .pointer (some ⟨ps, 0, none⟩)), (6, .pointer (some ⟨pb, 0, none⟩)), (9, Zd (fr : Nat)), (25, .bool true)] _ _ ?_ (by simp (maxSteps := 2000000) only [vup, cond_true, cond_false, Nat.reduceBEq])
    clear hN2
    try clear N2
    refine Zv ?_
    refine Zn fun Q hQ => ?_
    refine Yx (γ := Nat × Zh × Rat) (fun g => (fr ≤ g.1 ∧ g.1 ≤ sets.length + n) ∧ Ext (fun b => b = pb) h g.2.1 ∧ g.2.1[pb]? = some (bC g.2.2) ∧ Att n sets g.2.2 ∧ q ≤ g.2.2 ∧
        ∀ k t, fr ≤ k → k < g.1 → t.Sublist (List.range' (k + 1) (sets.length + n - (k + 1))) → t.length = d → ∀ x, Corner n sets (B ++ k :: t) x → sumTo x n ≤ g.2.2)
      (fun g => ([(0, Zd (fr : Nat)), (1, v), (2, .pointer (some ⟨pn, 0, none⟩)), (3, .pointer (some ⟨pr, 0, none⟩)), (4, .pointer (some ⟨pg, 0, none⟩)), (5, .pointer (some ⟨ps, 0, none⟩)), (6, .pointer (some ⟨pb, 0, none⟩)), (9, Zd (g.1 : Nat)), (25, .bool true)], g.2.1)) (fun g => sets.length + n - g.1) (fr, h, q) ⟨⟨Nat.le_refl _, hfr⟩, Ext.refl _ _, hq, ha, Rat.le_refl, fun k t h1 h2 => absurd h2 (Nat.not_lt.2 h1)⟩ (by simp (maxSteps := 2000000) only [vup, cond_true, cond_false, Nat.reduceBEq]) rfl ?_
    rintro ⟨k, H, qk⟩ ⟨⟨hk1, hk2⟩, hE, hqk, hak, hle, hno⟩
    simp only at hk1 hk2 hE hqk hak hle hno
    refine Zn fun Q2 hQ2 => ?_
    simp only [l85_0]
    have hkH : KG h0 pb H := hk.trans hE
    obtain ⟨r1, r2⟩ := ge.rows H hkH
    have hrl : rws.length = sets.length + n := r2.len.trans (by simp)
    by_cases hkin : (k : Int) < ((sets.length + n : Nat) : Int)
    · have hk' : k < sets.length + n := by omega
      have hkW : k < rws.length := by omega
      refine Zo fun A hA => ?_
      refine Zg fun N3 hN3 => ?_
      simp (maxSteps := 2000000) only [↓Za, ↓Zb, ↓Zc, vup, List.map_cons, List.map_nil, cond_true, cond_false, aop, Zf, ev, sput, Ze, Zw, Zy, Zj, Nat.reduceBEq, tyf, Wa (hkH.at_ ge.rb ge.fr) shp_82, r1.len, hrl, hkin]
      refine hN3 [(0, Zd (fr : Nat)), (1, v), (2, .pointer (some ⟨pn, 0, none⟩)), (3, .pointer (some ⟨pr, 0, none⟩)), (4, .pointer (some ⟨pg, 0, none⟩)), (5, .pointer (some ⟨ps, 0, none⟩)), (6, .pointer (some ⟨pb, 0, none⟩)), (9, Zd (k : Nat)), (25, .bool true), (30, .bool true)] _ _ ?_ (by simp (maxSteps := 2000000) only [vup, cond_true, cond_false, Nat.reduceBEq])
      clear hN3
      try clear N3
      refine Xd rfl ?_
      refine Zm ?_
      simp (maxSteps := 2000000) only [↓Zk, Zf]
      refine hA [(0, Zd (fr : Nat)), (1, v), (2, .pointer (some ⟨pn, 0, none⟩)), (3, .pointer (some ⟨pr, 0, none⟩)), (4, .pointer (some ⟨pg, 0, none⟩)), (5, .pointer (some ⟨ps, 0, none⟩)), (6, .pointer (some ⟨pb, 0, none⟩)), (9, Zd (k : Nat)), (25, .bool true)] _ _ ?_ (by simp (maxSteps := 2000000) only [vup, cond_true, cond_false, Nat.reduceBEq])
      clear hA
      try clear A
      refine Zo fun Y hY => ?_
      refine Zv ?_
      refine Zm ?_
      simp only [q85_4]
      have hgH := hkH.at_ ge.gb ge.fg
      obtain ⟨gf, hgf⟩ : ∃ z : Value, z = .func (.func 85) #[] #[.pointer (some ⟨pn, 0, none⟩), .pointer (some ⟨pr, 0, none⟩), .pointer (some ⟨pg, 0, none⟩), .pointer (some ⟨ps, 0, none⟩), .pointer (some ⟨pb, 0, none⟩)] := ⟨_, rfl⟩
      rw [← hgf] at hgH
      have hoH : OwnV 22 H v (B.map fun k => rws.getD k undef) := ho.same fun b hb => hE.2 b (ho.lt hb) fun hc => by
        obtain ⟨c, hc'⟩ := ho.blk hb
        rw [hc, hq] at hc'; cases hc'
      obtain ⟨w, hw⟩ : ∃ w, w = rws.getD k undef := ⟨_, rfl⟩
      have hwI : IntSl H w (rowI n sets k) := hw ▸ ge.row hkH hk'
      have hld : ∀ {K : Value → Prop}, Xj prog H 22 (Wc rv 1 k) K = K w := fun {K} => by rw [r1.load Vb hkW, hw]
      refine aw_drawR (fun z => z[pg]? = some (.cells [gf] 83 false)) [(0, 5), (15, 4)] (by kernel_rfl) (by kernel_rfl) (by kernel_rfl) (by kernel_rfl) hgH ?_
      simp (maxSteps := 2000000) only [↓dopsR_nil, ↓vdn, vup, List.map_cons, List.map_nil, cond_true, cond_false, aop, Zf, Zl, ev, sput, Ze, Zw, Zy, Zj, Nat.reduceBEq, Nat.reduceAdd, tyf, Nat.reduceLT, Bool.false_or, Bool.true_or]
      refine ⟨gf, fun hp hhp => by simp only [Wa hhp shp_83], ?_⟩
      simp (maxSteps := 2000000) only [vup, cond_true, cond_false, ev, Nat.reduceBEq, Wy (show k < 9223372036854775807 by omega), hoH.val.len, Option.map_some, Option.map_none]
      refine hoH.cap el_84 esz_22 fun cv hcv => ?_
      simp (maxSteps := 2000000) only [Wa (hkH.at_ ge.rb ge.fr) shp_82, r1.idx el_82 esz_22 hkW, hld, buildSlW el_84 zero_22 esz_22 hwI]
      refine ⟨Va hgH _, ?_⟩
      have hval : ValSl (H ++ [Blk.cells [w] 22 false]) (.slice (some ⟨H.length, 0, none⟩) 1 1) [w] := .inr ⟨H.length, 0, none, 1, [w], 22, false, rfl, Nat.le_refl _, by simp [view, Blk.view], rfl⟩
      have hmapw : (B ++ [k]).map (fun k => rws.getD k undef) = B.map (fun k => rws.getD k undef) ++ [w] := by rw [List.map_append, hw]; rfl
      have hBm' : ∀ j ∈ B ++ [k], j < sets.length + n := fun j hj => by
        rcases List.mem_append.1 hj with hj | hj
        · exact hBm j hj
        · rw [List.mem_singleton.1 hj]; exact hk'
      refine (hcv.ext (Ext.app _ _ _)).app app_84_84 hval (by simp) (fun z hz => by
        rw [← hmapw, List.mem_map] at hz
        obtain ⟨j, hj, rfl⟩ := hz
        exact intSl_notI (ge.row hkH (hBm' j hj))) (by rw [hml]; simp only [List.length_singleton]; omega) fun nv hnv => ?_
      rw [← hmapw] at hnv ⊢
      obtain ⟨G, hG⟩ : ∃ G, G = H ++ [Blk.cells [w] 22 false] ++ [Blk.cells ((B ++ [k]).map fun k => rws.getD k undef) 22 false] := ⟨_, rfl⟩
      rw [← hG] at hnv ⊢
      have hEHG : Ext (fun _ => False) H G := by rw [hG]; simp only [List.append_assoc]; exact Ext.app _ _ _
      have hgG : G[pg]? = some (.cells [gf] 83 false) := (hEHG.2 _ (Yp hgH) id).trans hgH
      have hqG : G[pb]? = some (bC qk) := (hEHG.2 _ (Yp hqk) id).trans hqk
      have hEG : Ext (fun b => b = pb) h G := hE.trans (hEHG.mono fun _ h => h.elim)
      refine ⟨hgG, ?_⟩
      rw [hgf]
      simp (maxSteps := 2000000) only [Ym, List.nil_append, List.cons_append]
      refine (ih (k + 1) (B ++ [k]) G nv qk (by rw [List.length_append, List.length_singleton]; omega) (hk.trans hEG) hnv hBm' hk' hqG hak).mono ?_
      rintro r G2 ⟨hE2, q2, hb2, ha2, hle2, hc2⟩
      refine ⟨by have := (hE2.2 _ (Yp hgG) ge.fg).trans hgG; rw [hgf] at this; exact this, ?_⟩
      refine hY [(0, Zd (fr : Nat)), (1, v), (2, .pointer (some ⟨pn, 0, none⟩)), (3, .pointer (some ⟨pr, 0, none⟩)), (4, .pointer (some ⟨pg, 0, none⟩)), (5, .pointer (some ⟨ps, 0, none⟩)), (6, .pointer (some ⟨pb, 0, none⟩)), (9, Zd (k : Nat)), (25, .bool true)] _ _ ?_ (by simp (maxSteps := 2000000) only [vup, cond_true, cond_false, Nat.reduceBEq])
      clear hY
      try clear Y
      refine Zm ?_
      simp (maxSteps := 2000000) only [↓Za, ↓Zb, ↓Zc, vup, cond_true, cond_false, aop, ev, sput, Ze, Zw, Zy, Nat.reduceBEq, Wy (show k < 9223372036854775807 by omega)]
      refine hQ2 _ _ _ ⟨(k + 1, G2, q2), ⟨⟨by simp only; omega, hk'⟩, hEG.trans hE2, hb2, ha2, Rat.le_trans hle hle2, fun k' t h1 h2 h3 h4 x hx => ?_⟩, by simp only; omega, by simp (maxSteps := 2000000) only [vup, cond_true, cond_false, Nat.reduceBEq], rfl⟩
      simp only at h2
      by_cases hkk : k' = k
      · subst hkk
        exact hc2 t h3 h4 x (by rw [List.append_assoc]; exact hx)
      · exact Rat.le_trans (hno k' t h1 (by omega) h3 h4 x hx) hle2
    obtain rfl : k = sets.length + n := by omega
    refine Zo fun A hA => ?_
    refine Zg fun N4 hN4 => ?_
    simp (maxSteps := 2000000) only [↓Za, ↓Zb, ↓Zc, vup, List.map_cons, List.map_nil, cond_true, cond_false, aop, Zf, ev, sput, Ze, Zw, Zy, Zj, Nat.reduceBEq, tyf, Wa (hkH.at_ ge.rb ge.fr) shp_82, r1.len, hrl, hkin]
    refine hN4 [(0, Zd (fr : Nat)), (1, v), (2, .pointer (some ⟨pn, 0, none⟩)), (3, .pointer (some ⟨pr, 0, none⟩)), (4, .pointer (some ⟨pg, 0, none⟩)), (5, .pointer (some ⟨ps, 0, none⟩)), (6, .pointer (some ⟨pb, 0, none⟩)), (9, Zd (sets.length + n : Nat)), (25, .bool true), (30, .bool false)] _ _ ?_ (by simp (maxSteps := 2000000) only [vup, cond_true, cond_false, Nat.reduceBEq])
    clear hN4
    try clear N4
    refine Yo rfl ?_
    refine Zm ?_
    simp (maxSteps := 2000000) only [↓Ye, Zf]
    refine hQ2 _ _ _ (hQ _ _ _ ?_)
    simp (maxSteps := 2000000) only [Zf, Zl, Zr, if_true]
    refine hZ [(0, Zd (fr : Nat)), (1, v), (2, .pointer (some ⟨pn, 0, none⟩)), (3, .pointer (some ⟨pr, 0, none⟩)), (4, .pointer (some ⟨pg, 0, none⟩)), (5, .pointer (some ⟨ps, 0, none⟩)), (6, .pointer (some ⟨pb, 0, none⟩))] _ _ ?_ (by simp (maxSteps := 2000000) only [vup, cond_true, cond_false, Nat.reduceBEq])
    clear hZ
    try clear Z
    refine Zm ?_
    simp (maxSteps := 2000000) only [↓Zu, Zf, Zr, Xg]
    refine ⟨hE, qk, hqk, hak, hle, fun t ht htl x hx => ?_⟩
    cases t with
    | nil => cases htl
    | cons k t =>
      obtain ⟨h1, h2, h3⟩ := sub_cons ht
      rw [show fr + (sets.length + n - fr) = sets.length + n by omega] at h2 h3
      exact hno k t h1 h2 h3 (by simpa using htl) x hx
end Go.Proofs.Tryd.Am

namespace Bq
open Go.Am

def withinB (sets : List Nat) (s : Nat) : Bool := sets.any fun t => decide (s ≠ t) && decide (less s t = 0)
def keepL (sets : List Nat) : List Nat := sets.filter fun s => !withinB sets s
theorem less_sub {a b : Nat} : less a b = 0 ↔ ∀ k, a.testBit k = true → b.testBit k = true := by
  constructor
  · intro h k hk
    have := Zz a b k
    rw [h, Nat.zero_testBit, hk] at this
    simpa using this.symm
  · intro h
    refine Nat.eq_of_testBit_eq fun k => ?_
    rw [Zz, Nat.zero_testBit]
    cases hk : a.testBit k with
    | false => rfl
    | true => rw [h k hk]; rfl
theorem sub_le {a b : Nat} (h : less a b = 0) : a ≤ b := by
  have h1 : a &&& b = a := Nat.eq_of_testBit_eq fun k => by
    rw [Nat.testBit_and]
    cases hk : a.testBit k with
    | false => rfl
    | true => rw [less_sub.1 h k hk]; rfl
  rw [← h1]; exact Nat.and_le_right
theorem kept_over {sets : List Nat} {M : Nat} (hM : ∀ s ∈ sets, s < M) : ∀ (d s : Nat), M - s ≤ d → s ∈ sets → ∃ t ∈ keepL sets, less s t = 0 := by
  intro d
  induction d with
  | zero => intro s hd hs; have := hM s hs; omega
  | succ d ih =>
    intro s hd hs
    cases hw : withinB sets s with
    | false => exact ⟨s, List.mem_filter.2 ⟨hs, by rw [hw]; rfl⟩, less_sub.2 fun k h => h⟩
    | true =>
      obtain ⟨t, ht, h2⟩ := List.any_eq_true.1 hw
      rw [Bool.and_eq_true, decide_eq_true_eq, decide_eq_true_eq] at h2
      have h3 := sub_le h2.2
      have h4 := hM t ht
      obtain ⟨u, hu, h5⟩ := ih t (by omega) ht
      exact ⟨u, hu, less_sub.2 fun k hk => less_sub.1 h5 k (less_sub.1 h2.2 k hk)⟩
theorem feas_keep {n : Nat} {sets : List Nat} {x : Nat → Rat} : PFeas n (keepL sets) x ↔ PFeas n sets x := by
  constructor
  · intro h
    refine ⟨h.nn, fun s hs => ?_⟩
    obtain ⟨M, hM⟩ : ∃ M, ∀ s ∈ sets, s < M := by
      clear h hs
      induction sets with
      | nil => exact ⟨0, fun s h => by cases h⟩
      | cons a l ih =>
        obtain ⟨M, hM⟩ := ih
        refine ⟨max M (a + 1), fun s hs => ?_⟩
        rcases List.mem_cons.1 hs with rfl | hs
        · omega
        · have := hM s hs; omega
    obtain ⟨t, ht, hst⟩ := kept_over hM _ s (Nat.le_refl _) hs
    refine Rat.le_trans (sumTo_le fun i hi => ?_) (h.le t ht)
    refine Rat.mul_le_mul_of_nonneg_right ?_ (h.nn i hi)
    rw [bitQ, bitQ]
    by_cases hb : s.testBit i = true
    · rw [if_pos hb, if_pos (less_sub.1 hst i hb)]; exact Rat.le_refl
    · rw [if_neg hb]; split <;> decide
  · intro h
    exact ⟨h.nn, fun s hs => h.le s (List.mem_filter.1 hs).1⟩
theorem opt_keep {n : Nat} {sets : List Nat} {q : Rat} (h : IsOpt n (keepL sets) q) : IsOpt n sets q := by
  obtain ⟨⟨x, hx, e⟩, h2⟩ := h
  exact ⟨⟨x, feas_keep.1 hx, e⟩, fun x hx => h2 x (feas_keep.2 hx)⟩
theorem keep_cover {n : Nat} {sets : List Nat} (hM : ∀ s ∈ sets, s < 2 ^ n) (hc : ∀ i, i < n → ∃ s ∈ sets, s.testBit i = true) : ∀ i, i < n → ∃ s ∈ keepL sets, s.testBit i = true := fun i hi => by
  obtain ⟨s, hs, hb⟩ := hc i hi
  obtain ⟨t, ht, h⟩ := kept_over hM _ s (Nat.le_refl _) hs
  exact ⟨t, ht, less_sub.1 h i hb⟩
end Bq

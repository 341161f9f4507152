/-
  bets: the bounds of an event.
  bets: bounds and prices.
  bets: bounds and prices, in the reference.
  bets: bets cloned and one more; small numbers told; the bounds and a belief.
  bets: law More.
  bets: law Bounds.
  bets: law Narrow.
-/
import Derived.Test.YtcmindinomacbaaPk10
import Derived.Test.YtcmindinomacbaaPk9
import Derived.Test.YtcmindinomacbaaPk5
set_option linter.all false
namespace Go.Proofs.Try.Am
open Go.Am Bq
set_option maxRecDepth 100000
set_option maxHeartbeats 4000000

def minL : Rat → List Rat → Rat
  | a, [] => a
  | a, f :: fs => minL (if f < a then f else a) fs
def maxL : Rat → List Rat → Rat
  | a, [] => a
  | a, f :: fs => maxL (if a < f then f else a) fs
theorem minL_spec : ∀ (vs : List Rat) (a : Rat), (minL a vs = a ∨ minL a vs ∈ vs) ∧ minL a vs ≤ a ∧ ∀ v ∈ vs, minL a vs ≤ v
  | [], a => ⟨.inl rfl, Rat.le_refl, fun v hv => by cases hv⟩
  | f :: fs, a => by
    obtain ⟨h1, h2, h3⟩ := minL_spec fs (if f < a then f else a)
    rw [minL]
    have h4 : minL (if f < a then f else a) fs ≤ a ∧ minL (if f < a then f else a) fs ≤ f := by
      split at h2
      · next h => rw [if_pos h]; exact ⟨Rat.le_trans h2 (Rat.le_of_lt h), h2⟩
      · next h => rw [if_neg h]; exact ⟨h2, Rat.le_trans h2 (Rat.not_lt.1 h)⟩
    refine ⟨?_, h4.1, fun v hv => ?_⟩
    · rcases h1 with h1 | h1
      · split at h1
        · next h => rw [if_pos h]; exact .inr (by rw [h1]; simp)
        · next h => rw [if_neg h]; exact .inl h1
      · exact .inr (List.mem_cons_of_mem _ h1)
    · rcases List.mem_cons.1 hv with rfl | hv
      · exact h4.2
      · exact h3 v hv
theorem maxL_spec : ∀ (vs : List Rat) (a : Rat), (maxL a vs = a ∨ maxL a vs ∈ vs) ∧ a ≤ maxL a vs ∧ ∀ v ∈ vs, v ≤ maxL a vs
  | [], a => ⟨.inl rfl, Rat.le_refl, fun v hv => by cases hv⟩
  | f :: fs, a => by
    obtain ⟨h1, h2, h3⟩ := maxL_spec fs (if a < f then f else a)
    rw [maxL]
    have h4 : a ≤ maxL (if a < f then f else a) fs ∧ f ≤ maxL (if a < f then f else a) fs := by
      split at h2
      · next h => rw [if_pos h]; exact ⟨Rat.le_trans (Rat.le_of_lt h) h2, h2⟩
      · next h => rw [if_neg h]; exact ⟨h2, Rat.le_trans (Rat.not_lt.1 h) h2⟩
    refine ⟨?_, h4.1, fun v hv => ?_⟩
    · rcases h1 with h1 | h1
      · split at h1
        · next h => rw [if_pos h]; exact .inr (by rw [h1]; simp)
        · next h => rw [if_neg h]; exact .inl h1
      · exact .inr (List.mem_cons_of_mem _ h1)
    · rcases List.mem_cons.1 hv with rfl | hv
      · exact h4.2
      · exact h3 v hv
theorem minL_snoc (vs : List Rat) (f : Rat) : ∀ a, minL a (vs ++ [f]) = if f < minL a vs then f else minL a vs := by
  induction vs with
  | nil => intro a; rfl
  | cons g gs ih => intro a; rw [List.cons_append, minL, minL, ih]
theorem maxL_snoc (vs : List Rat) (f : Rat) : ∀ a, maxL a (vs ++ [f]) = if maxL a vs < f then f else maxL a vs := by
  induction vs with
  | nil => intro a; rfl
  | cons g gs ih => intro a; rw [List.cons_append, maxL, maxL, ih]

/-- Small numbers. -/
def SmQ (q : Rat) : Prop := 0 ≤ q ∧ q ≤ 1 ∧ q.den ≤ 720
theorem SmQ.num {q : Rat} (h : SmQ q) : 0 ≤ q.num ∧ q.num ≤ 720 := by
  have h0 := Rat.num_nonneg.2 h.1
  have h1 := h.2.1
  rw [Rat.le_iff] at h1
  have h2 := h.2.2
  have h3 : q.num ≤ (q.den : Int) := by simpa using h1
  omega
theorem SmQ.less [Tabs prog] {a b : Rat} (ha : SmQ a) (hb : SmQ b) (h : Zh) : Xc prog 62 [qV a, qV b] h (.bool (decide (a < b))) := by
  have na := ha.num
  have nb := hb.num
  have r1 := (Rp.own a).up b.den b.den_pos
  have r2 := (Rp.own b).up a.den a.den_pos
  rw [Nat.mul_comm b.den] at r2
  have x1 : (a.num * (b.den : Int)).natAbs ≤ 720 * 720 := by rw [Int.natAbs_mul, Int.natAbs_natCast]; exact Nat.mul_le_mul (by omega) hb.2.2
  have x2 : (b.num * (a.den : Int)).natAbs ≤ 720 * 720 := by rw [Int.natAbs_mul, Int.natAbs_natCast]; exact Nat.mul_le_mul (by omega) ha.2.2
  have x3 : a.den * b.den ≤ 720 * 720 := Nat.mul_le_mul ha.2.2 hb.2.2
  exact less_call r1 r2 (by omega) (by omega)
theorem SmQ.rless [Tabs prog] {a b : Rat} (ha : SmQ a) (hb : SmQ b) (h : Zh) : Xc prog 23 [qV a, qV b] h (.bool (decide (a < b))) := by
  have na := ha.num
  have nb := hb.num
  have x1 : (a.num * (b.den : Int)).natAbs ≤ 720 * 720 := by rw [Int.natAbs_mul, Int.natAbs_natCast]; exact Nat.mul_le_mul (by omega) hb.2.2
  have x2 : (b.num * (a.den : Int)).natAbs ≤ 720 * 720 := by rw [Int.natAbs_mul, Int.natAbs_natCast]; exact Nat.mul_le_mul (by omega) ha.2.2
  exact rless_call (by omega) (by omega)
/-- The chance of an event at a corner. -/
def cvq (n e : Nat) (b : List Rat) : Rat := evq n (fun w => b.getD w 0) e
theorem evq_bounds {n : Nat} {p : Nat → Rat} (h0 : ∀ w, w < n → 0 ≤ p w) (h1 : Zu p n = 1) (e : Nat) : 0 ≤ evq n p e ∧ evq n p e ≤ 1 := by
  constructor
  · refine sumTo_nonneg fun w hw => ?_
    rcases bitQ_01 e w with h | h <;> rw [h]
    · rw [Rat.zero_mul]; exact Rat.le_refl
    · rw [Rat.one_mul]; exact h0 w hw
  · rw [← h1]
    refine sumTo_le fun w hw => ?_
    rcases bitQ_01 e w with h | h <;> rw [h]
    · rw [Rat.zero_mul]; exact h0 w hw
    · rw [Rat.one_mul]; exact Rat.le_refl
theorem part_dvd {n : Nat} {p : Nat → Rat} {D : Nat} (hD : 0 < D) (h : ∀ w, w < n → (p w).den ∣ D) (e : Nat) : (evq n p e).den ∣ D := by
  refine sumTo_den hD fun w hw => ?_
  rcases bitQ_01 e w with h1 | h1 <;> rw [h1]
  · rw [Rat.zero_mul]; exact Nat.one_dvd _
  · rw [Rat.one_mul]; exact h w hw
theorem corner_den' {n : Nat} {l : List (Int × Int)} {b : List Rat} (hval : Yx n l = true) (hb : b ∈ Ye n l) : ∃ D, 0 < D ∧ D ≤ 720 ∧ ∀ w, w < n → (b.getD w 0).den ∣ D := by
  obtain ⟨set, h1, h2, h3⟩ := mem_corners.1 hb
  exact corner_den (Vh hval).2.1 (cts_of hval) h3
theorem corner_sm {n : Nat} {l : List (Int × Int)} {b : List Rat} (hval : Yx n l = true) (hb : b ∈ Ye n l) (e : Nat) : SmQ (cvq n e b) := by
  obtain ⟨_, hf, _, _, _, _⟩ := corner_facts hval hb
  obtain ⟨D, d1, d2, d3⟩ := corner_den' hval hb
  obtain ⟨h1, h2⟩ := evq_bounds hf.nn hf.one e
  exact ⟨h1, h2, Nat.le_trans (Nat.le_of_dvd d1 (part_dvd d1 d3 e)) d2⟩
theorem corner_of [Tabs prog] {h : Zh} {n e : Nat} {l : List (Int × Int)} {b : List Rat} {w : Value} (hval : Yx n l = true) (hb : b ∈ Ye n l) (hw : BelAt h w b) (he : e < 9223372036854775808) : Xc prog 61 [w, Zd (e : Nat)] h (qV (cvq n e b)) := by
  obtain ⟨hl, hf, hle, _, hc, _⟩ := corner_facts hval hb
  obtain ⟨D, d1, d2, d3⟩ := corner_den' hval hb
  have hn5 := (Vh hval).2.1
  obtain ⟨bl, rfl, hbl⟩ := hw
  have px := pairSl_cells hbl
  rw [List.length_map] at px
  have key := of_call (evt := e) (N := D) px (by rw [List.length_map]; omega) hc.vld he d1 (by omega) (fun k hk => by
    rw [List.length_map] at hk
    rw [fq_map hk]
    exact ⟨hf.nn k (by omega), hle k (by omega), d3 k (by omega)⟩)
  rw [List.length_map, hl, inEv_bit] at key
  rw [hl, cvq, ← show evq n (fq (b.map ofQ)) e = evq n (fun w => b.getD w 0) e from Zk fun w hw => by rw [fq_map (by omega)]]
  exact key

theorem s59_callW [Tabs Try.prog] {args : List Value} {h : Zh} {Q : Value → Zh → Prop} (hsz : args.length ≤ 14) (hk : AWS Try.prog 14 s59 (Zv Try.prog [.tmp 4] Q) (Zo 0 args) h) : ACall Try.prog 59 args h Q :=
  Yr Try.func59 rfl (enters_of Try.func59 (by kernel_rfl) rfl) rfl rfl (by decide) s59_strip s59_ok hsz hk
theorem isEvent_call [Tabs prog] {h : Zh} {n : Nat} {e : Int} {v : Value} (hn : n ≤ 62) : Xc prog 59 [.agg #[Zd (n : Nat), v], Zd e] h (.bool (decide (0 ≤ e) && decide (e < 2 ^ n))) := by
  refine ACall.forget (Low.bool _) ?_
  refine s59_callW (by simp) ?_
  refine Zi ?_
  have hsh : shlV .i64 1 (n : Int) = 2 ^ n := shl1 hn
  have t1 : (h ++ [Blk.cells [Zd (n : Nat), v] 86 false])[h.length]? = some (.cells [Zd (n : Nat), v] 86 false) := Zz _ _
  by_cases h1 : e ≥ 0
  · have e1 : decide (0 ≤ e) = true := by simpa using h1
    by_cases h2 : e < 2 ^ n
    · simp (maxSteps := 2000000) only [s59, ↓Za, ↓Zt, ↓Zy, ↓Zb, ↓Zc, ↓vdn, vup, cond_true, cond_false, aop, Zg, Zo, ev, sput, Zf, Yi, Yo, Nat.reduceBEq, Nat.reduceAdd, Zv, Xw, tup, tyf, boxT, Yn, h1, tA0, Vw t1, Int.natCast_nonneg, hsh, h2, Bool.true_and]
      exact Ext.app _ _ _
    · simp (maxSteps := 2000000) only [s59, ↓Za, ↓Zt, ↓Zy, ↓Zb, ↓Zc, ↓vdn, vup, cond_true, cond_false, aop, Zg, Zo, ev, sput, Zf, Yi, Yo, Nat.reduceBEq, Nat.reduceAdd, Zv, Xw, tup, tyf, boxT, Yn, h1, tA0, Vw t1, Int.natCast_nonneg, hsh, h2, Bool.true_and]
      exact Ext.app _ _ _
  · have e1 : decide (0 ≤ e) = false := by simpa using h1
    simp (maxSteps := 2000000) only [s59, ↓Za, ↓Zt, ↓Zy, ↓Zb, ↓Zc, ↓vdn, vup, cond_true, cond_false, aop, Zg, Zo, ev, sput, Zf, Yi, Yo, Nat.reduceBEq, Nat.reduceAdd, Zv, Xw, tup, boxT, h1, Bool.false_and]
    exact Ext.app _ _ _

/-- Where there are bounds. -/
def evB (n : Int) (e : Int) : Bool := decide (0 ≤ e) && decide (e < 2 ^ n.toNat)
def loQ (n e : Nat) (l : List (Int × Int)) : Rat := minL (cvq n e ((Ye n l).headD [])) ((Ye n l).map (cvq n e))
def hiQ (n e : Nat) (l : List (Int × Int)) : Rat := maxL (cvq n e ((Ye n l).headD [])) ((Ye n l).map (cvq n e))
def bndV (n e : Int) (l : List (Int × Int)) : Value :=
  if Yx n l = true ∧ evB n e = true then (if Ye n.toNat l = [] then .tuple #[frV 0 0, frV 0 0, .int .i64 5] else .tuple #[qV (loQ n.toNat e.toNat l), qV (hiQ n.toNat e.toNat l), .int .i64 0]) else .tuple #[frV 0 0, frV 0 0, .int .i64 2]
theorem BelAt.ext {h h' : Zh} {w : Value} {b : List Rat} (hb : BelAt h w b) (hE : Ext (fun _ => False) h h') : BelAt h' w b := by
  obtain ⟨bl, h1, h2⟩ := hb
  exact ⟨bl, h1, (hE.2 _ (Yl h2) id).trans h2⟩

theorem s17_callW [Tabs Try.prog] {args : List Value} {h : Zh} {Q : Value → Zh → Prop} (hsz : args.length ≤ 65) (hk : AWS Try.prog 65 s17 (Zv Try.prog [.cell 6 26, .cell 7 26, .tmp 8] Q) (Zo 0 args) h) : ACall Try.prog 17 args h Q :=
  Yr Try.func17 rfl (enters_of Try.func17 (by kernel_rfl) rfl) rfl rfl (by decide) s17_strip s17_ok hsz hk
theorem progBounds_call [Tabs prog] {h : Zh} {n e : Int} {v : Value} {l : List (Int × Int)} (hv : PairSl h v l) (hl : l.length < 9223372036854775808) :
    ACall prog 17 [Zd n, v, Zd e] h fun r h' => Ext (fun _ => False) h h' ∧ r = bndV n e l := by
  obtain ⟨p, m, c, rfl⟩ := pairSl_shape hv
  obtain ⟨R, hR⟩ : ∃ R, bndV n e l = R := ⟨_, rfl⟩
  rw [hR]
  obtain ⟨H0, hH0⟩ : ∃ H, H = h ++ [z0] ++ [z0] := ⟨_, rfl⟩
  have hE0 : Ext (fun _ => False) h H0 := by rw [hH0]; exact e2 ..
  have a6 : H0[h.length]? = some z0 := by rw [hH0]; exact b2_0 ..
  have a7 : H0[h.length + 1]? = some z0 := by rw [hH0]; exact b2_1 ..
  have hl0 : H0.length = h.length + 2 := by rw [hH0]; simp
  obtain ⟨H, hH⟩ : ∃ H, H = H0 ++ [Blk.cells [Zd n, .slice p m c] 86 false] := ⟨_, rfl⟩
  have hE1 : Ext (fun _ => False) H0 H := by rw [hH]; exact Ext.app _ _ _
  have hE := hE0.trans hE1
  have b9 : H[H0.length]? = some (.cells [Zd n, .slice p m c] 86 false) := by rw [hH]; exact Zz _ _
  have b6 : H[h.length]? = some z0 := (hE1.2 _ (Yl a6) id).trans a6
  have b7 : H[h.length + 1]? = some z0 := (hE1.2 _ (Yl a7) id).trans a7
  have hvH := hv.ext hE
  refine s17_callW (by simp) ?_
  simp only [s17]
  refine Ze fun N1 hN1 => ?_
  simp (maxSteps := 2000000) only [↓Za, ↓Zb, ↓Zc, vup, cond_false, aop, Zg, Zo, ev, sput, Zf, Nat.reduceBEq, Nat.reduceAdd, tyf, Xl, Yn, List.length_append, List.length_singleton]
  rw [← hH0]
  refine hN1 [(0, Zd n), (1, .slice p m c), (2, Zd e), (6, .pointer (some ⟨h.length, 0, none⟩)), (7, .pointer (some ⟨h.length + 1, 0, none⟩)), (8, .int .i64 0)] _ _ ?_ (by simp (maxSteps := 2000000) only [vup, cond_true, cond_false, Nat.reduceBEq])
  clear hN1
  try clear N1
  refine Ze fun N2 hN2 => ?_
  simp (maxSteps := 2000000) only [↓Za, ↓Zb, ↓Zc, vup, List.map_cons, List.map_nil, cond_true, cond_false, aop, Zg, ev, sput, Zf, Nat.reduceBEq, tyf, bldT, Xl, Yn, storeT (Zz H0 (.cells [.int .i64 0, .slice none 0 0] 86 false)) rfl, Xy]
  rw [← hH]
  refine hN2 [(2, Zd e), (6, .pointer (some ⟨h.length, 0, none⟩)), (7, .pointer (some ⟨h.length + 1, 0, none⟩)), (8, .int .i64 0), (9, .pointer (some ⟨H0.length, 0, none⟩))] _ _ ?_ (by simp (maxSteps := 2000000) only [vup, cond_true, cond_false, Nat.reduceBEq])
  clear hN2
  try clear N2
  -- a refusal
  have refuse : ∀ (G : Zh) (k : Int), Ext (fun _ => False) H G → G[h.length]? = some z0 → G[h.length + 1]? = some z0 → ∀ K : Zh → Prop, (∀ G', Ext (fun _ => False) h G' → G'[h.length]? = some (fC 0 0) → G'[h.length + 1]? = some (fC 0 0) → K G') → Xn prog G 26 (.pointer (some ⟨h.length, 0, none⟩)) (.agg #[Zd 0, Zd 0]) fun G1 => Xn prog G1 26 (.pointer (some ⟨h.length + 1, 0, none⟩)) (.agg #[Zd 0, Zd 0]) K := by
    intro G k hG g6 g7 K hK
    rw [Xz g6 rfl]
    have g7' : (G.set h.length (fC 0 0))[h.length + 1]? = some z0 := by rw [List.getElem?_set_ne (by omega)]; exact g7
    rw [Xz g7' rfl]
    refine hK _ (((hE.trans hG).set_ge (Nat.le_refl _) _).set_ge (by omega) _) ?_ (Wc (Yl g7') _)
    rw [List.getElem?_set_ne (by omega)]; exact Wc (Yl g6) _
  refine Zn fun M hM => ?_
  refine Ze fun N3 hN3 => ?_
  have bad : ¬ (Yx n l = true ∧ evB n e = true) → ∀ e', ELe e' [(2, Zd e), (6, .pointer (some ⟨h.length, 0, none⟩)), (7, .pointer (some ⟨h.length + 1, 0, none⟩)), (8, .int .i64 0), (9, .pointer (some ⟨H0.length, 0, none⟩)), (25, .bool true)] → N3 e' H := by
    intro hb e' he
    refine hN3 _ _ _ ?_ he
    refine Wd rfl ?_
    refine Zi ?_
    simp (maxSteps := 2000000) only [↓Za, ↓Zt, ↓Zy, ↓Zb, ↓Zc, vup, List.map_nil, cond_true, cond_false, aop, Zg, ev, sput, Zf, Nat.reduceBEq, Zv, Xw, tup, bldF0]
    refine refuse H 2 (Ext.refl _ _) b6 b7 _ fun G' g1 g2 g3 => ?_
    simp (maxSteps := 2000000) only [Wi g2, Wi g3]
    rw [← hR, bndV, if_neg hb]
    exact ⟨g1, rfl⟩
  simp (maxSteps := 2000000) only [↓Za, ↓Zc, vup, List.map_cons, List.map_nil, cond_true, cond_false, aop, ev, sput, Zf, unK, Nat.reduceBEq, Yt, List.nil_append, List.append_nil, loadT b9]
  refine (valid_call hvH hl).mono ?_
  rintro _ H ⟨rfl, rfl⟩
  cases hval : Yx n l with
  | false =>
    simp (maxSteps := 2000000) only [↓Zb, ↓vdn, vup, cond_true, cond_false, Zg, ev, sput, Zf, Nat.reduceBEq]
    exact bad (by rw [hval]; simp) _ (by simp (maxSteps := 2000000) only [vup, cond_true, cond_false, Nat.reduceBEq])
  | true =>
    obtain ⟨k, hk⟩ : ∃ k : Nat, n = k := ⟨n.toNat, by simp only [Yx, Bool.and_eq_true, decide_eq_true_eq] at hval; omega⟩
    subst hk
    obtain ⟨hn2, hn5, hl1, hl6, hok⟩ := Vh hval
    have ie := isEvent_call (h := H) (n := k) (e := e) (v := .slice p m c) (by omega)
    have hevB : evB k e = (decide (0 ≤ e) && decide (e < 2 ^ k)) := by rw [evB, Int.toNat_natCast]
    rw [← hevB] at ie
    simp (maxSteps := 2000000) only [↓Zb, ↓Zc, ↓vdn, vup, List.map_cons, List.map_nil, cond_true, cond_false, aop, Zg, ev, sput, Zf, unK, Nat.reduceBEq, loadT b9, Yt, List.nil_append, List.append_nil]
    refine ie.mono ?_
    rintro _ H ⟨rfl, rfl⟩
    cases hev : evB k e with
    | false =>
      simp (maxSteps := 2000000) only [vup]
      exact bad (by rw [hev]; simp) _ (by simp (maxSteps := 2000000) only [vup, cond_true, cond_false, Nat.reduceBEq])
    | true =>
      clear bad
      simp (maxSteps := 2000000) only [vup]
      refine hN3 [(2, Zd e), (6, .pointer (some ⟨h.length, 0, none⟩)), (7, .pointer (some ⟨h.length + 1, 0, none⟩)), (8, .int .i64 0), (9, .pointer (some ⟨H0.length, 0, none⟩)), (25, .bool false)] _ _ ?_ (by simp (maxSteps := 2000000) only [vup, cond_true, cond_false, Nat.reduceBEq])
      clear hN3
      try clear N3
      refine Xi rfl ?_
      refine Zi ?_
      simp (maxSteps := 2000000) only [↓Zw, Zg]
      refine hM [(2, Zd e), (6, .pointer (some ⟨h.length, 0, none⟩)), (7, .pointer (some ⟨h.length + 1, 0, none⟩)), (8, .int .i64 0), (9, .pointer (some ⟨H0.length, 0, none⟩))] _ _ ?_ (by simp (maxSteps := 2000000) only [vup, cond_true, cond_false, Nat.reduceBEq])
      clear hM
      try clear M
      have hev' := hev
      rw [hevB, Bool.and_eq_true, decide_eq_true_eq, decide_eq_true_eq] at hev'
      obtain ⟨ee, hee⟩ : ∃ ee : Nat, e = ee := ⟨e.toNat, by omega⟩
      subst hee
      have hee2 : ee < 2 ^ k := by
        have := hev'.2
        exact_mod_cast this
      have hpk := pow_le (show k ≤ 62 by omega)
      have hbnd : bndV k ee l = if Ye k l = [] then .tuple #[frV 0 0, frV 0 0, .int .i64 5] else .tuple #[qV (loQ k ee l), qV (hiQ k ee l), .int .i64 0] := by
        rw [bndV, if_pos ⟨hval, hev⟩, Int.toNat_natCast, Int.toNat_natCast]
      have hcor := corners_call (n := k) hvH hval (tame_all hn5 (cts_of hval))
      refine Ze fun N4 hN4 => ?_
      simp (maxSteps := 2000000) only [↓Za, ↓Zb, ↓Zc, vup, List.map_cons, List.map_nil, cond_true, cond_false, aop, Zg, ev, sput, Zf, Nat.reduceBEq, Yt, List.nil_append, List.append_nil, loadT b9]
      refine (hcor).mono ?_
      rintro r H1 ⟨hEc, ⟨ws, hor, heach⟩, hb⟩
      refine hN4 [(2, Zd (ee : Nat)), (6, .pointer (some ⟨h.length, 0, none⟩)), (7, .pointer (some ⟨h.length + 1, 0, none⟩)), (8, .int .i64 0), (9, .pointer (some ⟨H0.length, 0, none⟩)), (10, r)] _ _ ?_ (by simp (maxSteps := 2000000) only [vup, cond_true, cond_false, Nat.reduceBEq])
      clear hN4
      try clear N4
      have c6 : H1[h.length]? = some z0 := (hEc.2 _ (Yl b6) id).trans b6
      have c7 : H1[h.length + 1]? = some z0 := (hEc.2 _ (Yl b7) id).trans b7
      have hlen := heach.len
      have hclen := cornersTo_len k l (2 ^ k - 1)
      have hp32 : (2 : Nat) ^ k ≤ 2 ^ 5 := Nat.pow_le_pow_right (by decide) hn5
      obtain ⟨cs, hcs⟩ : ∃ cs, Ye k l = cs := ⟨_, rfl⟩
      have hcm : ∀ b ∈ cs, b ∈ Ye k l := fun b hb => by rw [hcs]; exact hb
      have hcl : cs.length ≤ 32 := by
        rw [← hcs]
        have : (Ye k l).length ≤ 2 ^ k - 1 := hclen
        omega
      rw [hcs] at hlen heach hbnd
      refine Zn fun M hM => ?_
      by_cases hnil : cs = []
      · subst hnil
        have h0 : (((ws.length : Nat) : Int) == 0) = true := by simp [hlen]
        refine Ze fun N5 hN5 => ?_
        simp (maxSteps := 2000000) only [↓Za, ↓Zb, ↓Zc, vup, List.map_cons, List.map_nil, cond_true, cond_false, aop, Zg, ev, sput, Zf, Yi, Yo, Zl, Nat.reduceBEq, tyf, hor.val.len, h0]
        refine hN5 [(2, Zd (ee : Nat)), (6, .pointer (some ⟨h.length, 0, none⟩)), (7, .pointer (some ⟨h.length + 1, 0, none⟩)), (8, .int .i64 0), (9, .pointer (some ⟨H0.length, 0, none⟩)), (10, r), (32, .bool true)] _ _ ?_ (by simp (maxSteps := 2000000) only [vup, cond_true, cond_false, Nat.reduceBEq])
        clear hN5
        try clear N5
        refine Wd rfl ?_
        refine Zi ?_
        simp (maxSteps := 2000000) only [↓Za, ↓Zt, ↓Zy, ↓Zb, ↓Zc, vup, List.map_nil, cond_true, cond_false, aop, Zg, ev, sput, Zf, Nat.reduceBEq, Zv, Xw, tup, bldF0]
        refine refuse H1 5 hEc c6 c7 _ fun G' g1 g2 g3 => ?_
        simp (maxSteps := 2000000) only [Wi g2, Wi g3]
        rw [← hR, hbnd, if_pos rfl]
        exact ⟨g1, rfl⟩
      have hpos : 0 < ws.length := by
        rw [hlen]; exact List.length_pos_iff.2 hnil
      have h0 : (((ws.length : Nat) : Int) == 0) = false := beq_eq_false_iff_ne.2 (by omega)
      refine Ze fun N6 hN6 => ?_
      simp (maxSteps := 2000000) only [↓Za, ↓Zb, ↓Zc, vup, List.map_cons, List.map_nil, cond_true, cond_false, aop, Zg, ev, sput, Zf, Yi, Yo, Zl, Nat.reduceBEq, tyf, hor.val.len, h0]
      refine hN6 [(2, Zd (ee : Nat)), (6, .pointer (some ⟨h.length, 0, none⟩)), (7, .pointer (some ⟨h.length + 1, 0, none⟩)), (8, .int .i64 0), (9, .pointer (some ⟨H0.length, 0, none⟩)), (10, r), (32, .bool false)] _ _ ?_ (by simp (maxSteps := 2000000) only [vup, cond_true, cond_false, Nat.reduceBEq])
      clear hN6
      try clear N6
      refine Xi rfl ?_
      refine Zi ?_
      simp (maxSteps := 2000000) only [↓Zw, Zg]
      refine hM [(2, Zd (ee : Nat)), (6, .pointer (some ⟨h.length, 0, none⟩)), (7, .pointer (some ⟨h.length + 1, 0, none⟩)), (8, .int .i64 0), (9, .pointer (some ⟨H0.length, 0, none⟩)), (10, r)] _ _ ?_ (by simp (maxSteps := 2000000) only [vup, cond_true, cond_false, Nat.reduceBEq])
      clear hM
      try clear M
      clear refuse
      -- the first one
      obtain ⟨v0, hv0⟩ : ∃ v0, cvq k ee (cs.headD []) = v0 := ⟨_, rfl⟩
      have hhead : ∀ i, i < ws.length → BelAt H1 (ws.getD i undef) (cs.getD i []) := fun i hi => heach.get undef [] (by omega)
      have hmemi : ∀ i, i < ws.length → cs.getD i [] ∈ cs := fun i hi => by
        rw [List.getD, List.getElem?_eq_getElem (show i < cs.length by omega)]; exact List.getElem_mem _
      have hcs0 : cs.headD [] = cs.getD 0 [] := by cases cs <;> rfl
      have of0 : Xc prog 61 [ws.getD 0 undef, Zd (ee : Nat)] H1 (qV v0) := by
        rw [← hv0, hcs0]
        exact corner_of hval (hcm _ (hmemi 0 hpos)) (hhead 0 hpos) (by omega)
      have hi0 : ∀ K : Value → Prop, Xd prog 88 r (.int .i64 0) K = K (Vv r 1 0) := fun K => by
        have := hor.val.idx el_88 esz_90 (k := .i64) hpos K
        simpa using this
      obtain ⟨F, hF⟩ : ∃ F : Rat → Rat → Zh, F = fun a b => (H1.set h.length (fC a.num a.den)).set (h.length + 1) (fC b.num b.den) := ⟨_, rfl⟩
      have l1 : h.length + 1 < H1.length := Yl c7
      have F6 : ∀ a b, (F a b)[h.length]? = some (fC a.num a.den) := fun a b => by
        simp only [hF]; rw [List.getElem?_set_ne (by omega)]; exact Wc (Yl c6) _
      have F7 : ∀ a b, (F a b)[h.length + 1]? = some (fC b.num b.den) := fun a b => by
        simp only [hF]; exact Wc (by rw [List.length_set]; exact l1) _
      have FE : ∀ a b, Ext (fun _ => False) h (F a b) := fun a b => by
        simp only [hF]; exact (((hE.trans hEc).set_ge (Nat.le_refl _) _).set_ge (by omega) _)
      have FS : ∀ a b, Ext (fun i => i = h.length ∨ i = h.length + 1) H1 (F a b) := fun a b => by
        simp only [hF]; exact (Ext.set _ (.inl rfl)).trans (Ext.set _ (.inr rfl))
      have st6 : ∀ {K : Zh → Prop}, Xn prog H1 26 (.pointer (some ⟨h.length, 0, none⟩)) (.agg #[Zd v0.num, Zd v0.den]) K = K (H1.set h.length (fC v0.num v0.den)) := fun {K} => Xz c6 rfl
      have st7 : ∀ {K : Zh → Prop}, Xn prog (H1.set h.length (fC v0.num v0.den)) 26 (.pointer (some ⟨h.length + 1, 0, none⟩)) (.agg #[Zd v0.num, Zd v0.den]) K = K (F v0 v0) := fun {K} => by
        rw [Xz (show (H1.set h.length (fC v0.num v0.den))[h.length + 1]? = some z0 by rw [List.getElem?_set_ne (by omega)]; exact c7) rfl, hF]
      refine Ze fun N7 hN7 => ?_
      simp only [q17_7]
      refine Xj [(4, 1), (9, 1)] (by kernel_rfl) (by kernel_rfl) (by kernel_rfl) (by kernel_rfl) ?_
      refine dops_cut 5 rfl fun N1 hN1 => ?_
      simp (maxSteps := 2000000) only [↓Yh, ↓vdn, vup, List.map_cons, List.map_nil, cond_true, cond_false, aop, ev, sput, Zf, Nat.reduceBEq, Nat.reduceAdd, List.take_succ_cons, List.take_zero, hi0, hor.val.load shp_90 hpos, Yt, List.nil_append, List.append_nil]
      refine ⟨_, _, of0, rfl, ?_⟩
      refine hN1 _ _ ?_
      clear hN1 N1
      refine dops_cut 5 rfl fun N1 hN1 => ?_
      simp (maxSteps := 2000000) only [↓Yh, ↓vdn, vup, List.map_cons, List.map_nil, cond_true, cond_false, aop, ev, sput, Zf, Nat.reduceBEq, Nat.reduceAdd, List.drop_succ_cons, List.drop_zero, List.take_succ_cons, List.take_zero, hi0, hor.val.load shp_90 hpos, Yt, List.nil_append, List.append_nil]
      refine ⟨_, _, of0, rfl, ?_⟩
      refine hN1 _ _ ?_
      clear hN1 N1
      simp (maxSteps := 2000000) only [↓Yh, ↓vdn, vup, cond_true, cond_false, aop, Zg, ev, Zf, Nat.reduceBEq, Nat.reduceAdd, List.drop_succ_cons, List.drop_zero, qV, frV, st6, st7]
      refine hN7 [(2, Zd (ee : Nat)), (6, .pointer (some ⟨h.length, 0, none⟩)), (7, .pointer (some ⟨h.length + 1, 0, none⟩)), (8, .int .i64 0), (9, .pointer (some ⟨H0.length, 0, none⟩)), (10, r)] _ _ ?_ (by simp (maxSteps := 2000000) only [vup, cond_true, cond_false, Nat.reduceBEq])
      clear hN7
      try clear N7
      -- all of them
      have hsm : ∀ i, i < ws.length → SmQ (cvq k ee (cs.getD i [])) := fun i hi => corner_sm hval (hcm _ (hmemi i hi)) ee
      have hsv0 : SmQ v0 := by rw [← hv0, hcs0]; exact hsm 0 hpos
      obtain ⟨vs, hvs⟩ : ∃ vs, cs.map (cvq k ee) = vs := ⟨_, rfl⟩
      have hvl : vs.length = ws.length := by rw [← hvs, List.length_map, hlen]
      have hvg : ∀ i, i < ws.length → vs.take i ++ [cvq k ee (cs.getD i [])] = vs.take (i + 1) := fun i hi => by
        have e : vs.getD i 0 = cvq k ee (cs.getD i []) := by
          rw [← hvs, List.getD, List.getElem?_map, List.getElem?_eq_getElem (show i < cs.length by omega), List.getD, List.getElem?_eq_getElem (show i < cs.length by omega)]; rfl
        rw [← e]; exact (take_snoc (by omega)).symm
      have hmm : ∀ i, i ≤ ws.length → SmQ (minL v0 (vs.take i)) ∧ SmQ (maxL v0 (vs.take i)) ∧ minL v0 (vs.take i) ≤ maxL v0 (vs.take i) := fun i hi => by
        have hall : ∀ v ∈ vs.take i, SmQ v := fun v hv => by
          have := List.mem_of_mem_take hv
          rw [← hvs] at this
          obtain ⟨b, hb, rfl⟩ := List.mem_map.1 this
          exact corner_sm hval (hcm b hb) ee
        obtain ⟨g1, g2, g3⟩ := minL_spec (vs.take i) v0
        obtain ⟨f1, f2, f3⟩ := maxL_spec (vs.take i) v0
        refine ⟨?_, ?_, Rat.le_trans g2 f2⟩
        · rcases g1 with g | g
          · rw [g]; exact hsv0
          · exact hall _ g
        · rcases f1 with g | g
          · rw [g]; exact hsv0
          · exact hall _ g
      refine Zn fun Z hZ => ?_
      refine Ze fun N8 hN8 => ?_
      simp (maxSteps := 2000000) only [↓Za, ↓Zb, ↓Zc, vup, List.map_cons, List.map_nil, cond_true, cond_false, aop, Zg, ev, sput, Zf, Zl, Nat.reduceBEq, tyf, hor.val.len]
      refine hN8 [(2, Zd (ee : Nat)), (6, .pointer (some ⟨h.length, 0, none⟩)), (7, .pointer (some ⟨h.length + 1, 0, none⟩)), (8, .int .i64 0), (9, .pointer (some ⟨H0.length, 0, none⟩)), (10, r), (45, r), (46, Zd (ws.length : Nat)), (47, .int .i64 0)] _ _ ?_ (by simp (maxSteps := 2000000) only [vup, cond_true, cond_false, Nat.reduceBEq])
      clear hN8
      try clear N8
      refine Zp ?_
      refine Ya fun Q hQ => ?_
      refine Xb (γ := Nat × Zh) (fun s => s.1 ≤ ws.length ∧ Ext (fun i => i = h.length ∨ i = h.length + 1) H1 s.2 ∧ Ext (fun _ => False) h s.2 ∧ s.2[h.length]? = some (fC (minL v0 (vs.take s.1)).num (minL v0 (vs.take s.1)).den) ∧ s.2[h.length + 1]? = some (fC (maxL v0 (vs.take s.1)).num (maxL v0 (vs.take s.1)).den))
        (fun s => ([(2, Zd (ee : Nat)), (6, .pointer (some ⟨h.length, 0, none⟩)), (7, .pointer (some ⟨h.length + 1, 0, none⟩)), (8, .int .i64 0), (9, .pointer (some ⟨H0.length, 0, none⟩)), (10, r), (45, r), (46, Zd (ws.length : Nat)), (47, Zd (s.1 : Nat))], s.2)) (fun s => ws.length - s.1) (0, F v0 v0) ⟨Nat.zero_le _, FS _ _, FE _ _, F6 _ _, F7 _ _⟩ (by simp (maxSteps := 2000000) only [vup, cond_true, cond_false, Nat.reduceBEq, Int.natCast_zero]) rfl ?_
      rintro ⟨i, G⟩ ⟨hi, hGS, hGE, g6, g7⟩
      simp only at hi hGS hGE g6 g7
      refine Ya fun Q2 hQ2 => ?_
      simp only [l17_0]
      have horG : OwnV 88 G r ws ∨ True := .inr trivial
      by_cases hin : (i : Int) < ws.length
      · have hi' : i < ws.length := by omega
        obtain ⟨sm1, sm2, smle⟩ := hmm i hi
        have smf := hsm i hi'
        have hsn := hvg i hi'
        have hBel := hhead i hi'
        obtain ⟨f, hf⟩ : ∃ f, cvq k ee (cs.getD i []) = f := ⟨_, rfl⟩
        rw [hf] at smf hsn
        have hmin := minL_snoc (vs.take i) f v0
        have hmax := maxL_snoc (vs.take i) f v0
        rw [hsn] at hmin hmax
        obtain ⟨A, hA⟩ : ∃ A, minL v0 (vs.take i) = A := ⟨_, rfl⟩
        obtain ⟨B, hB⟩ : ∃ A, maxL v0 (vs.take i) = A := ⟨_, rfl⟩
        rw [hA] at sm1 smle hmin g6
        rw [hB] at sm2 smle hmax g7
        have hkeepB : ∀ b x, H1[b]? = some x → b ≠ h.length → b ≠ h.length + 1 → G[b]? = some x := fun b x hb n1 n2 => (hGS.2 b (Yl hb) (by omega)).trans hb
        have hws : ValSl G r ws := hor.val.same fun b hb => hGS.2 b (hor.lt hb) (by
          rintro (h1 | h1)
          · obtain ⟨c', hc'⟩ := hor.blk hb; rw [h1, c6] at hc'; exact absurd (Blk.cells.inj (Option.some.inj hc')).2.1 (by decide)
          · obtain ⟨c', hc'⟩ := hor.blk hb; rw [h1, c7] at hc'; exact absurd (Blk.cells.inj (Option.some.inj hc')).2.1 (by decide))
        have hBelG : BelAt G (ws.getD i undef) (cs.getD i []) := by
          obtain ⟨bl, e1, e2⟩ := hBel
          have hlc := (corner_facts hval (hcm _ (hmemi i hi'))).1
          refine ⟨bl, e1, hkeepB bl _ e2 (fun hc => ?_) (fun hc => ?_)⟩
          · rw [hc, c6] at e2
            have := congrArg List.length (Blk.cells.inj (Option.some.inj e2)).1
            simp only [List.length_map, Xf, hlc, List.length_cons, List.length_nil] at this
            omega
          · rw [hc, c7] at e2
            have := congrArg List.length (Blk.cells.inj (Option.some.inj e2)).1
            simp only [List.length_map, Xf, hlc, List.length_cons, List.length_nil] at this
            omega
        have ofi : Xc prog 61 [ws.getD i undef, Zd (ee : Nat)] G (qV f) := by
          rw [← hf]
          exact corner_of hval (hcm _ (hmemi i hi')) hBelG (by omega)
        obtain ⟨hh, hhe⟩ : ∃ hh, hh = G ++ [fC f.num f.den] := ⟨_, rfl⟩
        have g13 : hh[G.length]? = some (fC f.num f.den) := by rw [hhe]; exact Zz _ _
        have g6' : hh[h.length]? = some (fC A.num A.den) := by rw [hhe]; exact Xr g6 _
        have g7' : hh[h.length + 1]? = some (fC B.num B.den) := by rw [hhe]; exact Xr g7 _
        have hES : Ext (fun i => i = h.length ∨ i = h.length + 1) H1 hh := by rw [hhe]; exact hGS.trans (Ext.app _ _ _)
        have hEE : Ext (fun _ => False) h hh := by rw [hhe]; exact hGE.trans (Ext.app _ _ _)
        refine Ze fun N9 hN9 => ?_
        simp (maxSteps := 2000000) only [↓Za, ↓Zb, ↓Zc, vup, cond_true, cond_false, aop, Zg, ev, sput, Zf, Yi, Yo, Nat.reduceBEq, hin]
        refine hN9 [(2, Zd (ee : Nat)), (6, .pointer (some ⟨h.length, 0, none⟩)), (7, .pointer (some ⟨h.length + 1, 0, none⟩)), (8, .int .i64 0), (9, .pointer (some ⟨H0.length, 0, none⟩)), (10, r), (45, r), (46, Zd (ws.length : Nat)), (47, Zd (i : Nat)), (48, .bool true)] _ _ ?_ (by simp (maxSteps := 2000000) only [vup, cond_true, cond_false, Nat.reduceBEq])
        clear hN9
        try clear N9
        refine Ze fun N10 hN10 => ?_
        simp (maxSteps := 2000000) only [↓Zw, ↓vdn, vup, cond_true, cond_false, Zg, ev, Nat.reduceBEq]
        refine hN10 [(2, Zd (ee : Nat)), (6, .pointer (some ⟨h.length, 0, none⟩)), (7, .pointer (some ⟨h.length + 1, 0, none⟩)), (8, .int .i64 0), (9, .pointer (some ⟨H0.length, 0, none⟩)), (10, r), (45, r), (46, Zd (ws.length : Nat)), (47, Zd (i : Nat))] _ _ ?_ (by simp (maxSteps := 2000000) only [vup, cond_true, cond_false, Nat.reduceBEq])
        clear hN10
        try clear N10
        refine Zn fun D hD => ?_
        refine Zp ?_
        have fin : ∀ e' G' (a b : Rat), minL v0 (vs.take (i + 1)) = a → maxL v0 (vs.take (i + 1)) = b → Ext (fun i => i = h.length ∨ i = h.length + 1) H1 G' → Ext (fun _ => False) h G' → G'[h.length]? = some (fC a.num a.den) → G'[h.length + 1]? = some (fC b.num b.den) → ELe e' [(2, Zd (ee : Nat)), (6, .pointer (some ⟨h.length, 0, none⟩)), (7, .pointer (some ⟨h.length + 1, 0, none⟩)), (8, .int .i64 0), (9, .pointer (some ⟨H0.length, 0, none⟩)), (10, r), (45, r), (46, Zd (ws.length : Nat)), (47, Zd (i : Nat))] → D e' G' := by
          intro e' G' a b e1 e2 e3 e4 e5 e6 he
          subst e1
          subst e2
          refine hD _ _ _ ?_ he
          refine Zi ?_
          simp (maxSteps := 2000000) only [↓Za, ↓Zb, ↓Zc, vup, cond_true, cond_false, aop, ev, sput, Zf, Yi, Yo, Nat.reduceBEq, add1 (show i < 9223372036854775807 by omega)]
          exact hQ2 _ _ _ ⟨(i + 1, G'), ⟨hi', e3, e4, e5, e6⟩, by simp only; omega, by simp (maxSteps := 2000000) only [vup, cond_true, cond_false, Nat.reduceBEq], rfl⟩
        refine Ze fun N11 hN11 => ?_
        simp (maxSteps := 2000000) only [↓Za, ↓Zb, ↓Zc, vup, cond_true, cond_false, aop, Zg, ev, sput, Zf, Nat.reduceBEq, hws.idx el_88 esz_90 hi', hws.load shp_90 hi']
        refine hN11 [(2, Zd (ee : Nat)), (6, .pointer (some ⟨h.length, 0, none⟩)), (7, .pointer (some ⟨h.length + 1, 0, none⟩)), (8, .int .i64 0), (9, .pointer (some ⟨H0.length, 0, none⟩)), (10, r), (12, ws.getD i undef), (45, r), (46, Zd (ws.length : Nat)), (47, Zd (i : Nat))] _ _ ?_ (by simp (maxSteps := 2000000) only [vup, cond_true, cond_false, Nat.reduceBEq])
        clear hN11
        try clear N11
        refine Ze fun N12 hN12 => ?_
        simp (maxSteps := 2000000) only [↓Za, ↓Zb, ↓Zc, vup, List.map_cons, List.map_nil, cond_true, cond_false, aop, Zg, ev, sput, Zf, Nat.reduceBEq, Yt, List.nil_append, List.append_nil]
        refine (ofi).mono ?_
        rintro _ G ⟨rfl, rfl⟩
        simp (maxSteps := 2000000) only [tyf, qV, frV, Xl, Yn, Xz (Zz G z0) rfl, Xy]
        rw [← hhe]
        refine hN12 [(2, Zd (ee : Nat)), (6, .pointer (some ⟨h.length, 0, none⟩)), (7, .pointer (some ⟨h.length + 1, 0, none⟩)), (8, .int .i64 0), (9, .pointer (some ⟨H0.length, 0, none⟩)), (10, r), (12, ws.getD i undef), (13, .pointer (some ⟨G.length, 0, none⟩)), (45, r), (46, Zd (ws.length : Nat)), (47, Zd (i : Nat))] _ _ ?_ (by simp (maxSteps := 2000000) only [vup, cond_true, cond_false, Nat.reduceBEq])
        clear hN12
        try clear N12
        refine Ze fun N13 hN13 => ?_
        simp (maxSteps := 2000000) only [↓Za, ↓Zb, ↓Zc, vup, List.map_cons, List.map_nil, cond_true, cond_false, aop, Zg, ev, sput, Zf, Nat.reduceBEq, Yt, List.nil_append, List.append_nil, Wi g13, Wi g6']
        refine ((smf.less sm1 hh)).mono ?_
        rintro _ hh ⟨rfl, rfl⟩
        refine hN13 [(2, Zd (ee : Nat)), (6, .pointer (some ⟨h.length, 0, none⟩)), (7, .pointer (some ⟨h.length + 1, 0, none⟩)), (8, .int .i64 0), (9, .pointer (some ⟨H0.length, 0, none⟩)), (10, r), (12, ws.getD i undef), (13, .pointer (some ⟨G.length, 0, none⟩)), (45, r), (46, Zd (ws.length : Nat)), (47, Zd (i : Nat)), (56, .bool (decide (f < A)))] _ _ ?_ (by simp (maxSteps := 2000000) only [vup, cond_true, cond_false, Nat.reduceBEq])
        clear hN13
        try clear N13
        by_cases h1 : f < A
        · have nb : ¬ B < f := Rat.not_lt.2 (Rat.le_trans (Rat.le_of_lt h1) smle)
          rw [if_pos h1] at hmin
          rw [if_neg nb] at hmax
          rw [decide_eq_true h1]
          refine Wd rfl ?_
          refine Zi ?_
          simp (maxSteps := 2000000) only [↓Za, ↓Zb, ↓Zc, vup, cond_true, cond_false, aop, Zg, Zs, ev, sput, Zf, Nat.reduceBEq, Wi g13, Xz g6' rfl]
          refine fin _ _ f B hmin hmax (hES.trans (Ext.set _ (.inl rfl))) (hEE.set_ge (Nat.le_refl _) _) (Wc (Yl g6') _) ?_ (by simp (maxSteps := 2000000) only [vup, cond_true, cond_false, Nat.reduceBEq])
          rw [List.getElem?_set_ne (by omega)]; exact g7'
        · rw [if_neg h1] at hmin
          rw [decide_eq_false h1]
          refine Xi rfl ?_
          refine Ze fun N14 hN14 => ?_
          simp (maxSteps := 2000000) only [↓Za, ↓Zb, ↓Zc, vup, List.map_cons, List.map_nil, cond_true, cond_false, aop, Zg, ev, sput, Zf, Nat.reduceBEq, Yt, List.nil_append, List.append_nil, Wi g13, Wi g7']
          refine ((sm2.less smf hh)).mono ?_
          rintro _ hh ⟨rfl, rfl⟩
          refine hN14 [(2, Zd (ee : Nat)), (6, .pointer (some ⟨h.length, 0, none⟩)), (7, .pointer (some ⟨h.length + 1, 0, none⟩)), (8, .int .i64 0), (9, .pointer (some ⟨H0.length, 0, none⟩)), (10, r), (12, ws.getD i undef), (13, .pointer (some ⟨G.length, 0, none⟩)), (45, r), (46, Zd (ws.length : Nat)), (47, Zd (i : Nat)), (56, .bool false), (60, .bool (decide (B < f)))] _ _ ?_ (by simp (maxSteps := 2000000) only [vup, cond_true, cond_false, Nat.reduceBEq])
          clear hN14
          try clear N14
          by_cases h2 : B < f
          · rw [if_pos h2] at hmax
            rw [decide_eq_true h2]
            refine Wd rfl ?_
            refine Zi ?_
            simp (maxSteps := 2000000) only [↓Za, ↓Zb, ↓Zc, vup, cond_true, cond_false, aop, Zg, Zs, ev, sput, Zf, Nat.reduceBEq, Wi g13, Xz g7' rfl]
            refine fin _ _ A f hmin hmax (hES.trans (Ext.set _ (.inr rfl))) (hEE.set_ge (by omega) _) ?_ (Wc (Yl g7') _) (by simp (maxSteps := 2000000) only [vup, cond_true, cond_false, Nat.reduceBEq])
            rw [List.getElem?_set_ne (by omega)]; exact g6'
          · rw [if_neg h2] at hmax
            rw [decide_eq_false h2]
            refine Xi rfl ?_
            refine Zi ?_
            simp (maxSteps := 2000000) only [↓Zw, Zg, Zs]
            exact fin _ _ A B hmin hmax hES hEE g6' g7' (by simp (maxSteps := 2000000) only [vup, cond_true, cond_false, Nat.reduceBEq])
      · obtain rfl : i = ws.length := by omega
        refine Ze fun N15 hN15 => ?_
        simp (maxSteps := 2000000) only [↓Za, ↓Zb, ↓Zc, vup, cond_true, cond_false, aop, Zg, ev, sput, Zf, Yi, Yo, Nat.reduceBEq, hin]
        refine hN15 [(2, Zd (ee : Nat)), (6, .pointer (some ⟨h.length, 0, none⟩)), (7, .pointer (some ⟨h.length + 1, 0, none⟩)), (8, .int .i64 0), (9, .pointer (some ⟨H0.length, 0, none⟩)), (10, r), (45, r), (46, Zd (ws.length : Nat)), (47, Zd ws.length), (48, .bool false)] _ _ ?_ (by simp (maxSteps := 2000000) only [vup, cond_true, cond_false, Nat.reduceBEq])
        clear hN15
        try clear N15
        refine Ze fun N16 hN16 => ?_
        simp (maxSteps := 2000000) only [↓Xh, ↓vdn, vup, cond_true, cond_false, Zg, ev, Nat.reduceBEq]
        refine hQ2 _ _ _ (hQ _ _ _ ?_)
        simp (maxSteps := 2000000) only [Zg, Zs, Zv, if_true]
        refine hZ [(2, Zd (ee : Nat)), (6, .pointer (some ⟨h.length, 0, none⟩)), (7, .pointer (some ⟨h.length + 1, 0, none⟩)), (8, .int .i64 0), (9, .pointer (some ⟨H0.length, 0, none⟩)), (10, r), (48, .bool false)] _ _ ?_ (by simp (maxSteps := 2000000) only [vup, cond_true, cond_false, Nat.reduceBEq])
        clear hZ
        try clear Z
        have htk : vs.take ws.length = vs := List.take_of_length_le (by omega)
        rw [htk] at g6 g7
        obtain ⟨A, hA⟩ : ∃ A, minL v0 vs = A := ⟨_, rfl⟩
        obtain ⟨B, hB⟩ : ∃ A, maxL v0 vs = A := ⟨_, rfl⟩
        rw [hA] at g6
        rw [hB] at g7
        have s6 : ∀ {K : Zh → Prop}, Xn prog G 26 (.pointer (some ⟨h.length, 0, none⟩)) (.agg #[Zd A.num, Zd A.den]) K = K G := fun {K} => by
          rw [Xz g6 rfl]
          obtain ⟨x1, x2⟩ := List.getElem?_eq_some_iff.1 g6
          rw [show G.set h.length (fC A.num A.den) = G by rw [← x2]; exact List.set_getElem_self x1]
        have s7 : ∀ {K : Zh → Prop}, Xn prog G 26 (.pointer (some ⟨h.length + 1, 0, none⟩)) (.agg #[Zd B.num, Zd B.den]) K = K G := fun {K} => by
          rw [Xz g7 rfl]
          obtain ⟨x1, x2⟩ := List.getElem?_eq_some_iff.1 g7
          rw [show G.set (h.length + 1) (fC B.num B.den) = G by rw [← x2]; exact List.set_getElem_self x1]
        refine Ze fun N17 hN17 => ?_
        simp only [q17_17]
        refine aw_drawR (fun z => z[h.length + 1]? = some (fC B.num B.den)) [(1, 5)] (by kernel_rfl) (by kernel_rfl) (by kernel_rfl) (by kernel_rfl) g7 ?_
        simp (maxSteps := 2000000) only [↓dopsR_nil, ↓vdn, vup, cond_true, cond_false, aop, Zg, ev, sput, Zf, Nat.reduceBEq, Nat.reduceAdd, Wi g6, s6]
        refine ⟨.agg #[Zd B.num, Zd (B.den : Int)], fun z hz => by simp only [Wi hz], g7, ?_⟩
        rw [s7]
        refine ⟨g7, ?_⟩
        refine hN17 [(2, Zd (ee : Nat)), (6, .pointer (some ⟨h.length, 0, none⟩)), (7, .pointer (some ⟨h.length + 1, 0, none⟩)), (8, .int .i64 0), (9, .pointer (some ⟨H0.length, 0, none⟩)), (10, r), (48, .bool false)] _ _ ?_ (by simp (maxSteps := 2000000) only [vup, cond_true, cond_false, Nat.reduceBEq])
        clear hN17
        try clear N17
        refine Zi ?_
        simp (maxSteps := 2000000) only [↓Zy, vup, cond_true, cond_false, Nat.reduceBEq, Zv, Xw, tup, Wi g6, Wi g7]
        rw [← hR, hbnd, if_neg hnil, loQ, hiQ, hcs, hvs, hv0, hA, hB]
        exact ⟨hGE, rfl⟩
end Go.Proofs.Try.Am

namespace Go.Proofs.Try.Am
open Go.Am Bq
set_option maxRecDepth 100000
set_option maxHeartbeats 4000000

theorem bnd_sm {n e : Nat} {l : List (Int × Int)} (hval : Yx n l = true) (hne : Ye n l ≠ []) : SmQ (loQ n e l) ∧ SmQ (hiQ n e l) := by
  have hall : ∀ v ∈ (Ye n l).map (cvq n e), SmQ v := fun v hv => by
    obtain ⟨b, hb, rfl⟩ := List.mem_map.1 hv
    exact corner_sm hval hb e
  have h0 : SmQ (cvq n e ((Ye n l).headD [])) := by
    cases hc : Ye n l with
    | nil => exact absurd hc hne
    | cons c cs => exact corner_sm hval (by rw [hc]; simp) e
  constructor
  · rcases (minL_spec ((Ye n l).map (cvq n e)) (cvq n e ((Ye n l).headD []))).1 with g | g
    · rw [loQ, g]; exact h0
    · exact hall _ g
  · rcases (maxL_spec ((Ye n l).map (cvq n e)) (cvq n e ((Ye n l).headD []))).1 with g | g
    · rw [hiQ, g]; exact h0
    · exact hall _ g
end Go.Proofs.Try.Am

namespace Go.Proofs.Try.Am
open Go.Am Bq
set_option maxRecDepth 100000
set_option maxHeartbeats 4000000

end Go.Proofs.Try.Am

namespace Go.Proofs.Try.Am
open Go.Am Bq
set_option maxRecDepth 100000
set_option maxHeartbeats 4000000

/-- What may be appended to. -/
def ClS (h : Zh) (r : Value) (l : List (Int × Int)) : Prop := OwnP 24 h r l ∨ (l = [] ∧ ∃ b, r = .slice (some ⟨b, 0, none⟩) 0 0 ∧ h[b]? = some (.ints [] 24 false))
theorem ClS.ext {h h' : Zh} {r : Value} {l : List (Int × Int)} (c : ClS h r l) (hE : Ext (fun _ => False) h h') : ClS h' r l := by
  rcases c with c | ⟨rfl, b, rfl, hb⟩
  · exact .inl (c.ext hE)
  · exact .inr ⟨rfl, b, rfl, (hE.2 _ (Yl hb) id).trans hb⟩
theorem ClS.app [Tabs prog] {h : Zh} {r : Value} {l : List (Int × Int)} {x y : Int} {b2 c2 : Nat} {c : Bool} (hc : ClS h r l) (hl : l.length * 16 ≤ 140737488351232) (hb2 : h[b2]? = some (.ints [x, y] 24 c)) {h0 : Nat} (hb : ∀ b, Ym r = some b → h0 ≤ b) {K : Value → Zh → Prop}
    (hk : ∀ v' h', OwnP 24 h' v' (l ++ [(x, y)]) → Ext (fun b => h0 ≤ b) h h' → K v' h') : Yy prog h 22 22 r (.slice (some ⟨b2, 0, none⟩) 1 c2) K := by
  rcases hc with hc | ⟨rfl, b, rfl, hb0⟩
  · exact OwnP.appendW hc app_22_22 (by omega) hb2 fun v' h' ho hE _ => hk v' h' ho (hE.mono fun b hbb => hb b hbb)
  · exact appendE app_22_22 hb0 hb2 fun v' h' ho hE => hk v' h' ho (hE.mono fun _ hf => hf.elim)

theorem s22_callW [Tabs Try.prog] {args : List Value} {h : Zh} {Q : Value → Zh → Prop} (hsz : args.length ≤ 23) (hk : AWS Try.prog 23 s22 (Zv Try.prog [.tmp 2] Q) (Zo 0 args) h) : ACall Try.prog 22 args h Q :=
  Yr Try.func22 rfl (enters_of Try.func22 (by kernel_rfl) rfl) rfl rfl (by decide) s22_strip s22_ok hsz hk
theorem unit_call [Tabs prog] {h : Zh} {q : Rat} (hq : SmQ q) : Xc prog 22 [qV q] h (.bool true) := by
  have hn := hq.num
  have hd := q.den_pos
  have h3 := hq.2.2
  have hle : q.num ≤ (q.den : Int) := by
    have := hq.2.1
    rw [Rat.le_iff] at this
    simpa using this
  obtain ⟨x, hx⟩ : ∃ x, q.num = x := ⟨_, rfl⟩
  obtain ⟨y, hy⟩ : ∃ y : Int, (q.den : Int) = y := ⟨_, rfl⟩
  have g1 : y ≥ 1 := by omega
  have g2 : y ≤ 1000 := by omega
  have g3 : x ≥ 0 := by omega
  have g4 : x ≤ y := by omega
  rw [qV, frV, hx, hy]
  refine ACall.forget (Low.bool _) ?_
  refine s22_callW (by simp) ?_
  simp only [s22]
  obtain ⟨H, hH⟩ : ∃ H, H = h ++ [fC x y] := ⟨_, rfl⟩
  have hE : Ext (fun _ => False) h H := by rw [hH]; exact Ext.app _ _ _
  have b1 : H[h.length]? = some (fC x y) := by rw [hH]; exact Zz _ _
  refine Ze fun N1 hN1 => ?_
  simp (maxSteps := 2000000) only [↓Za, ↓Zb, ↓Zc, vup, cond_true, cond_false, aop, Zg, Zo, ev, sput, Zf, Nat.reduceBEq, boxF, Yn]
  rw [← hH]
  refine hN1 [(1, .pointer (some ⟨h.length, 0, none⟩)), (2, .bool false)] _ _ ?_ (by simp (maxSteps := 2000000) only [vup, cond_true, cond_false, Nat.reduceBEq])
  clear hN1
  try clear N1
  refine Ze fun N2 hN2 => ?_
  simp only [q22_1]
  refine Xt 8 fun N1 hN1 => ?_
  simp (maxSteps := 2000000) only [↓Za, ↓Zb, ↓Zc, ↓vdn, vup, cond_true, cond_false, aop, ev, sput, Zf, Yi, Yo, Nat.reduceBEq, tyf, List.take_succ_cons, List.take_zero, fA1, Xs b1, g1, g2]
  refine hN1 _ _ ?_
  clear hN1 N1
  simp only [List.drop_succ_cons, List.drop_zero]
  refine Xt 5 fun N1 hN1 => ?_
  simp (maxSteps := 2000000) only [↓Za, ↓Zb, ↓Zc, ↓vdn, vup, cond_true, cond_false, aop, ev, sput, Zf, Yi, Yo, Nat.reduceBEq, tyf, List.take_succ_cons, List.take_zero, fA0, Wh b1, g3]
  refine hN1 _ _ ?_
  clear hN1 N1
  simp only [List.drop_succ_cons, List.drop_zero]
  simp (maxSteps := 2000000) only [↓Za, ↓Zb, ↓Zc, ↓vdn, vup, cond_true, cond_false, aop, Zg, ev, sput, Zf, Yi, Yo, Nat.reduceBEq, tyf, fA0, fA1, Wh b1, Xs b1, g4]
  refine hN2 [(1, .pointer (some ⟨h.length, 0, none⟩)), (2, .bool true)] _ _ ?_ (by simp (maxSteps := 2000000) only [vup, cond_true, cond_false, Nat.reduceBEq])
  clear hN2
  try clear N2
  refine Zi ?_
  simp (maxSteps := 2000000) only [↓Zy, vup, cond_true, cond_false, Nat.reduceBEq, Zv, Xw, tup]
  exact hE

/-- The bounds hold for each belief that agrees. -/
theorem lo_hi_feas {n e : Nat} {l : List (Int × Int)} {p : Nat → Rat} (hf : Feas n l p) : loQ n e l ≤ evq n p e ∧ evq n p e ≤ hiQ n e l := by
  constructor
  · obtain ⟨b, hb, h⟩ := vertex (fun w => bitQ e w) _ p (Nat.le_refl _) hf
    exact Rat.le_trans ((minL_spec _ _).2.2 _ (List.mem_map.2 ⟨b, hb, rfl⟩)) h
  · obtain ⟨b, hb, h⟩ := vertex (fun w => -1 * bitQ e w) _ p (Nat.le_refl _) hf
    rw [Zk (g := fun w => -1 * (bitQ e w * b.getD w 0)) fun w hw => by grind, Xp, Zk (f := fun w => -1 * bitQ e w * p w) (g := fun w => -1 * (bitQ e w * p w)) fun w hw => by grind, Xp] at h
    have h2 : evq n p e ≤ cvq n e b := by
      rw [evq, cvq, evq]
      generalize Zu (fun w => bitQ e w * p w) n = A at *
      generalize Zu (fun w => bitQ e w * b.getD w 0) n = B at *
      grind
    exact Rat.le_trans h2 ((maxL_spec _ _).2.2 _ (List.mem_map.2 ⟨b, hb, rfl⟩))
/-- They are taken. -/
theorem lo_hi_taken {n e : Nat} {l : List (Int × Int)} (hne : Ye n l ≠ []) : (∃ b ∈ Ye n l, loQ n e l = cvq n e b) ∧ ∃ b ∈ Ye n l, hiQ n e l = cvq n e b := by
  have h0 : ∃ b ∈ Ye n l, cvq n e ((Ye n l).headD []) = cvq n e b := by
    cases hc : Ye n l with
    | nil => exact absurd hc hne
    | cons c cs => exact ⟨c, by simp, rfl⟩
  constructor
  · rcases (minL_spec ((Ye n l).map (cvq n e)) (cvq n e ((Ye n l).headD []))).1 with g | g
    · obtain ⟨b, hb, h⟩ := h0
      exact ⟨b, hb, by rw [loQ, g, h]⟩
    · obtain ⟨b, hb, h⟩ := List.mem_map.1 g
      exact ⟨b, hb, h.symm⟩
  · rcases (maxL_spec ((Ye n l).map (cvq n e)) (cvq n e ((Ye n l).headD []))).1 with g | g
    · obtain ⟨b, hb, h⟩ := h0
      exact ⟨b, hb, by rw [hiQ, g, h]⟩
    · obtain ⟨b, hb, h⟩ := List.mem_map.1 g
      exact ⟨b, hb, h.symm⟩
theorem corner_feas' {n : Nat} {l : List (Int × Int)} {b : List Rat} (hb : b ∈ Ye n l) : Feas n l (fun w => b.getD w 0) := by
  obtain ⟨set, _, _, h⟩ := mem_corners.1 hb
  exact (corner_feas h).2
end Go.Proofs.Try.Am

namespace Go.Proofs.Try.Am
open Go.Am Bq
set_option maxRecDepth 100000
set_option maxHeartbeats 4000000

theorem bndV_take9 (n e : Int) (l : List (Int × Int)) : bndV n e (l.take 9) = bndV n e l := by
  cases hval : Yx n l with
  | false => rw [bndV, bndV, valid_take, hval, if_neg (by simp), if_neg (by simp)]
  | true =>
    rw [List.take_of_length_le]
    simp only [Yx, Bool.and_eq_true, decide_eq_true_eq] at hval; omega
/-- What Bounds tells, case by case. -/
theorem bnd_cases (n e : Int) (l : List (Int × Int)) :
    (¬ (Yx n l = true ∧ evB n e = true) ∧ bndV n e l = .tuple #[frV 0 0, frV 0 0, .int .i64 2]) ∨
    (Yx n l = true ∧ evB n e = true ∧ Ye n.toNat l = [] ∧ bndV n e l = .tuple #[frV 0 0, frV 0 0, .int .i64 5]) ∨
    (Yx n l = true ∧ evB n e = true ∧ Ye n.toNat l ≠ [] ∧ bndV n e l = .tuple #[qV (loQ n.toNat e.toNat l), qV (hiQ n.toNat e.toNat l), .int .i64 0]) := by
  rw [bndV]
  by_cases h : Yx n l = true ∧ evB n e = true
  · rw [if_pos h]
    by_cases h2 : Ye n.toNat l = []
    · rw [if_pos h2]; exact .inr (.inl ⟨h.1, h.2, h2, rfl⟩)
    · rw [if_neg h2]; exact .inr (.inr ⟨h.1, h.2, h2, rfl⟩)
  · rw [if_neg h]; exact .inl ⟨h, rfl⟩
end Go.Proofs.Try.Am

namespace Go.Proofs.Try.Am
open Go.Am Bq
set_option maxRecDepth 100000
set_option maxHeartbeats 4000000

/-- A bet's event has the bet's price alone. -/
theorem bet_price {n : Nat} {l : List (Int × Int)} (hval : Yx n l = true) (hne : Ye n l ≠ []) {i : Nat} (hi : i < l.length) {e : Nat} {c : Int} (hxy : l.getD i (0, 0) = ((e : Int), c)) :
    loQ n e l = Rat.divInt c 12 ∧ hiQ n e l = Rat.divInt c 12 := by
  have hall : ∀ b ∈ Ye n l, cvq n e b = Rat.divInt c 12 := fun b hb => by
    have := (corner_facts hval hb).2.1.bet i hi
    rw [hxy, Int.toNat_natCast] at this
    exact this
  have h0 : cvq n e ((Ye n l).headD []) = Rat.divInt c 12 := by
    cases hc : Ye n l with
    | nil => exact absurd hc hne
    | cons b bs => exact hall b (by rw [hc]; simp)
  have hm : ∀ v ∈ (Ye n l).map (cvq n e), v = Rat.divInt c 12 := fun v hv => by
    obtain ⟨b, hb, rfl⟩ := List.mem_map.1 hv
    exact hall b hb
  constructor
  · rw [loQ, h0]
    rcases (minL_spec ((Ye n l).map (cvq n e)) (Rat.divInt c 12)).1 with g | g
    · exact g
    · exact hm _ g
  · rw [hiQ, h0]
    rcases (maxL_spec ((Ye n l).map (cvq n e)) (Rat.divInt c 12)).1 with g | g
    · exact g
    · exact hm _ g
end Go.Proofs.Try.Am

namespace Go.Proofs.Try.Am
open Go.Am Bq
set_option maxRecDepth 100000
set_option maxHeartbeats 4000000

theorem bitQ_compl {n e w : Nat} (he : e < 2 ^ n) (hw : w < n) : bitQ (2 ^ n - 1 - e) w = 1 - bitQ e w := by
  rw [bitQ, bitQ, Nat.sub_sub, Nat.add_comm 1 e, Nat.testBit_two_pow_sub_succ he]
  cases e.testBit w <;> simp [hw] <;> decide +kernel
theorem evq_compl {n e : Nat} {p : Nat → Rat} (he : e < 2 ^ n) (h1 : Zu p n = 1) : evq n p (2 ^ n - 1 - e) = 1 - evq n p e := by
  rw [evq, Zk (g := fun w => p w + -1 * (bitQ e w * p w)) fun w hw => by rw [bitQ_compl he hw]; grind, Wv, Xp, h1, evq]
  grind
theorem bnd_compl {n e : Nat} {l : List (Int × Int)} (he : e < 2 ^ n) (hne : Ye n l ≠ []) : loQ n (2 ^ n - 1 - e) l = 1 - hiQ n e l ∧ hiQ n (2 ^ n - 1 - e) l = 1 - loQ n e l := by
  obtain ⟨⟨a, ha, h1⟩, b, hb, h2⟩ := lo_hi_taken (e := e) hne
  obtain ⟨⟨c, hc, h3⟩, d, hd, h4⟩ := lo_hi_taken (e := 2 ^ n - 1 - e) hne
  have fa := corner_feas' ha
  have fb := corner_feas' hb
  have fc := corner_feas' hc
  have fd := corner_feas' hd
  have ca := evq_compl he fa.one
  have cb := evq_compl he fb.one
  have cc := evq_compl he fc.one
  have cd := evq_compl he fd.one
  have g1 := (lo_hi_feas (e := 2 ^ n - 1 - e) fb).1
  have g2 := (lo_hi_feas (e := e) fc).2
  have g3 := (lo_hi_feas (e := 2 ^ n - 1 - e) fa).2
  have g4 := (lo_hi_feas (e := e) fd).1
  rw [cvq] at h1 h2 h3 h4
  rw [cb, ← h2] at g1
  rw [cc] at h3
  rw [ca, ← h1] at g3
  rw [cd] at h4
  generalize evq n (fun w => c.getD w 0) e = C at *
  generalize evq n (fun w => d.getD w 0) e = D at *
  constructor
  · refine Rat.le_antisymm g1 ?_
    rw [h3]; grind
  · refine Rat.le_antisymm ?_ g3
    rw [h4]; grind
theorem one_nums {y u : Rat} (h : y + u = 1) : y.num * (u.den : Int) + u.num * (y.den : Int) = (y.den : Int) * (u.den : Int) := by
  have r1 := (Rp.own y).up u.den u.den_pos
  have r2 := (Rp.own u).up y.den y.den_pos
  rw [Nat.mul_comm u.den] at r2
  have r3 := r1.plus r2 1
  have e1 : y + ((1 : Int) : Rat) * u = 1 := by rw [show (((1 : Int)) : Rat) = 1 from rfl, Rat.one_mul]; exact h
  rw [e1] at r3
  have h2 := r3.2
  rw [Rat.one_mul, ← Rat.intCast_natCast] at h2
  have h3 := Rat.intCast_inj.1 h2
  rw [Int.natCast_mul] at h3
  omega
theorem cents_num {q : Rat} {c : Int} (h : q = Rat.divInt c 12) : 12 * q.num = c * (q.den : Int) := by
  have r1 := (Rp.own q).up 12 (by decide)
  have r2 := (Rp.of_frac (N := 12) (by decide) c).up q.den q.den_pos
  rw [show ((12 : Nat) : Int) = 12 from rfl, ← h, Nat.mul_comm] at r2
  have := r1.2.symm.trans r2.2
  have h3 := Rat.intCast_inj.1 this
  omega
theorem agB_feas {n : Nat} {l ps : List (Int × Int)} (hl : ps.length = n) (c : Chn ps) (h : agB l ps = true) : Feas n l (fq ps) := by
  rw [agB, Bool.and_eq_true, decide_eq_true_eq, List.all_eq_true] at h
  refine ⟨fun w hw => (c.unit (by omega)).1, by rw [← hl]; exact h.1, fun i hi => ?_⟩
  have := h.2 _ (Wn hi)
  rw [decide_eq_true_eq, inEv_bit, hl] at this
  exact this

theorem small_mul {a b : Int} (ha : 0 ≤ a ∧ a ≤ 720) (hb : 0 ≤ b ∧ b ≤ 720) : (a * b).natAbs ≤ 518400 := by
  have h1 := Int.mul_le_mul ha.2 hb.2 hb.1 (by decide)
  have h2 := Int.mul_nonneg ha.1 hb.1
  omega
theorem big_mul {a b : Int} {N : Nat} (ha : 0 ≤ a ∧ a ≤ 720) (hb : 0 ≤ b ∧ b ≤ N) : (a * b).natAbs ≤ 720 * N := by
  have h1 := Int.mul_le_mul ha.2 hb.2 hb.1 (by decide)
  have h2 := Int.mul_nonneg ha.1 hb.1
  omega
theorem rp_le {q1 q2 : Rat} {N : Nat} {s : Int} (h : Rp N s q2) : (q1 ≤ q2 ↔ q1.num * (N : Int) ≤ s * (q1.den : Int)) ∧ (q2 ≤ q1 ↔ s * (q1.den : Int) ≤ q1.num * (N : Int)) := by
  have r1 := (Rp.own q1).up N h.1
  have r2 := h.up q1.den q1.den_pos
  rw [Nat.mul_comm N] at r2
  rw [← Rat.not_lt, ← Rat.not_lt, r2.lt r1, r1.lt r2]
  omega

theorem s9_callW [Tabs Try.prog] {args : List Value} {h : Zh} {Q : Value → Zh → Prop} (hsz : args.length ≤ 238) (hk : AWS Try.prog 238 s9 (Zv Try.prog [.tmp 8] Q) (Zo 0 args) h) : ACall Try.prog 9 args h Q :=
  Yr Try.func9 rfl (enters_of Try.func9 (by kernel_rfl) rfl) rfl rfl (by decide) s9_strip s9_ok hsz hk
theorem law_narrow [Tabs prog] {h : Zh} {v w : Value} {l b : List (Int × Int)} (n : Int) (hv : PairSl h v l) (hl : l.length < 9223372036854775808) (hxl : InR l) (e : Int) (hw : PairSl h w b) (hlb : b.length < 9223372036854775808) (hxb : InR b) :
    ACall prog 9 [Zd n, v, Zd e, w] h fun r _ => r = .bool true := by
  refine s9_callW (by simp) ?_
  simp only [s9]
  refine Ze fun N1 hN1 => ?_
  simp (maxSteps := 2000000) only [↓Za, ↓Zb, ↓Zc, vup, cond_false, aop, Zg, Zo, ev, sput, Zf, Nat.reduceBEq, Nat.reduceAdd]
  refine hN1 [(0, Zd n), (1, v), (2, Zd e), (3, w), (8, .bool false)] _ _ ?_ (by simp (maxSteps := 2000000) only [vup, cond_true, cond_false, Nat.reduceBEq])
  clear hN1
  try clear N1
  refine Ze fun N2 hN2 => ?_
  simp (maxSteps := 2000000) only [↓Za, ↓Zb, ↓Zc, vup, List.map_cons, List.map_nil, cond_true, cond_false, aop, Zg, ev, sput, Zf, Nat.reduceBEq, Yt, List.nil_append, List.append_nil]
  refine (of_copy hv hl).mono ?_
  rintro u1 h1 ⟨hu1, hE1⟩
  refine (progBounds_call (n := n) (e := e) hu1 (by rw [List.length_take]; omega)).mono ?_
  rintro _ H ⟨hE2, hr⟩
  rw [hr, bndV_take9]
  clear hr
  have hEH := hE1.trans hE2
  have st7 : ∀ {H : Zh} {a b : Int} {K : Zh → Prop}, Xn prog (H ++ [z0] ++ [z0]) 26 (.pointer (some ⟨H.length, 0, none⟩)) (.agg #[Zd a, Zd b]) K = K (H ++ [fC a b] ++ [z0]) := fun {H a b K} => by
    rw [Xz (b2_0 ..) rfl, List.set_append_left _ _ (by simp), Xy]
  have st8 : ∀ {H : Zh} {a b c d : Int} {K : Zh → Prop}, Xn prog (H ++ [fC a b] ++ [z0]) 26 (.pointer (some ⟨H.length + 1, 0, none⟩)) (.agg #[Zd c, Zd d]) K = K (H ++ [fC a b] ++ [fC c d]) := fun {H a b c d K} => by
    have := Xy (H ++ [fC a b]) z0 (fC c d)
    simp only [List.length_append, List.length_singleton] at this
    rw [Xz (b2_1 ..) rfl, this]
  have inj3 : ∀ {a b c d f a' b' c' d' f' : Int}, Value.tuple #[frV a b, frV c d, .int .i64 f] = .tuple #[frV a' b', frV c' d', .int .i64 f'] → a = a' ∧ b = b' ∧ c = c' ∧ d = d' ∧ f = f' := fun {a b c d f a' b' c' d' f'} h => by
    simp only [frV, Value.tuple.injEq, Array.mk.injEq, List.cons.injEq, Value.agg.injEq, Value.int.injEq, and_true, true_and] at h
    obtain ⟨⟨h1, h2⟩, ⟨h3, h4⟩, h5⟩ := h
    exact ⟨h1, h2, h3, h4, h5⟩
  obtain ⟨a, a2, c, c2, f, hb⟩ : ∃ a b c d f : Int, bndV n e l = .tuple #[frV a b, frV c d, .int .i64 f] := by
    rcases bnd_cases n e l with ⟨_, h⟩ | ⟨_, _, _, h⟩ | ⟨_, _, _, h⟩ <;> exact ⟨_, _, _, _, _, h⟩
  rw [hb]
  simp (maxSteps := 2000000) only [extr_30, extr_31, extr_32, tyf, frV, Xl, Yn, List.length_append, List.length_singleton]
  rw [st7, st8]
  obtain ⟨G, hG⟩ : ∃ G, G = H ++ [fC a a2] ++ [fC c c2] := ⟨_, rfl⟩
  have hEG : Ext (fun _ => False) H G := by rw [hG]; exact e2 ..
  have b9 : G[H.length]? = some (fC a a2) := by rw [hG]; exact b2_0 ..
  have b10 : G[H.length + 1]? = some (fC c c2) := by rw [hG]; exact b2_1 ..
  rw [← hG]
  refine hN2 [(0, Zd n), (1, v), (2, Zd e), (3, w), (8, .bool false), (9, .pointer (some ⟨H.length, 0, none⟩)), (10, .pointer (some ⟨H.length + 1, 0, none⟩)), (11, .int .i64 f)] _ _ ?_ (by simp (maxSteps := 2000000) only [vup, cond_true, cond_false, Nat.reduceBEq])
  clear hN2
  try clear N2
  have hvG := hv.ext (hEH.trans hEG)
  have hwG := hw.ext (hEH.trans hEG)
  have aw1 : ∀ z : Zh, Xc prog 21 [] z (.bool true) := fun z => awake_call
  have n00 : ((0 : Int) != 0) = false := rfl
  have n20 : ((2 : Int) != 0) = true := rfl
  have n50 : ((5 : Int) != 0) = true := rfl
  have r22 : ((2 : Int) == 2) = true := rfl
  have r52 : ((5 : Int) == 2) = false := rfl
  have r55 : ((5 : Int) == 5) = true := rfl
  have r00 : ((0 : Int) == 0) = true := rfl
  have r20 : ((2 : Int) == 0) = false := rfl
  rcases bnd_cases n e l with ⟨_, h⟩ | ⟨_, _, _, h⟩ | ⟨hval, hev, hne, h4⟩
  · obtain ⟨-, -, -, -, rfl⟩ := inj3 (hb.symm.trans h)
    refine Zn fun M hM => ?_
    refine Ze fun N3 hN3 => ?_
    simp (maxSteps := 2000000) only [↓Za, ↓Zb, ↓Zc, ↓vdn, vup, cond_true, cond_false, aop, Zg, ev, sput, Zf, Yi, Yo, Nat.reduceBEq, n20]
    refine hN3 [(0, Zd n), (1, v), (2, Zd e), (3, w), (8, .bool false), (9, .pointer (some ⟨H.length, 0, none⟩)), (10, .pointer (some ⟨H.length + 1, 0, none⟩)), (11, .int .i64 2), (44, .bool true)] _ _ ?_ (by simp (maxSteps := 2000000) only [vup, cond_true, cond_false, Nat.reduceBEq])
    clear hN3
    try clear N3
    refine Wd rfl ?_
    refine Ze fun N4 hN4 => ?_
    simp only [q9_3]
    refine Xt 6 fun N1 hN1 => ?_
    simp (maxSteps := 2000000) only [↓Za, ↓Zb, ↓Zc, ↓vdn, vup, cond_true, cond_false, aop, ev, sput, Zf, Yi, Yo, Nat.reduceBEq, List.take_succ_cons, List.take_zero, r22]
    refine hN1 _ _ ?_
    clear hN1 N1
    simp only [List.drop_succ_cons, List.drop_zero]
    simp (maxSteps := 2000000) only [↓Za, ↓Zb, ↓Zc, ↓vdn, vup, List.map_nil, cond_true, cond_false, aop, Zg, ev, sput, Zf, Nat.reduceBEq, Yt, List.append_nil]
    refine ((aw1 G)).mono ?_
    rintro _ G ⟨rfl, hE9⟩
    refine hN4 [(0, Zd n), (1, v), (2, Zd e), (3, w), (8, .bool true), (9, .pointer (some ⟨H.length, 0, none⟩)), (10, .pointer (some ⟨H.length + 1, 0, none⟩)), (11, .int .i64 2), (44, .bool true)] _ _ ?_ (by simp (maxSteps := 2000000) only [vup, cond_true, cond_false, Nat.reduceBEq])
    clear hN4
    try clear N4
    refine Zi ?_
    simp (maxSteps := 2000000) only [↓Zy, vup, cond_true, cond_false, Zg, Nat.reduceBEq, Zv, Xw, tup]
  · obtain ⟨-, -, -, -, rfl⟩ := inj3 (hb.symm.trans h)
    refine Zn fun M hM => ?_
    refine Ze fun N5 hN5 => ?_
    simp (maxSteps := 2000000) only [↓Za, ↓Zb, ↓Zc, ↓vdn, vup, cond_true, cond_false, aop, Zg, ev, sput, Zf, Yi, Yo, Nat.reduceBEq, n50]
    refine hN5 [(0, Zd n), (1, v), (2, Zd e), (3, w), (8, .bool false), (9, .pointer (some ⟨H.length, 0, none⟩)), (10, .pointer (some ⟨H.length + 1, 0, none⟩)), (11, .int .i64 5), (44, .bool true)] _ _ ?_ (by simp (maxSteps := 2000000) only [vup, cond_true, cond_false, Nat.reduceBEq])
    clear hN5
    try clear N5
    refine Wd rfl ?_
    refine Ze fun N6 hN6 => ?_
    simp only [q9_3]
    refine Xt 6 fun N1 hN1 => ?_
    simp (maxSteps := 2000000) only [↓Za, ↓Zb, ↓Zc, ↓vdn, vup, cond_true, cond_false, aop, ev, sput, Zf, Yi, Yo, Nat.reduceBEq, List.take_succ_cons, List.take_zero, r52, r55]
    refine hN1 _ _ ?_
    clear hN1 N1
    simp only [List.drop_succ_cons, List.drop_zero]
    simp (maxSteps := 2000000) only [↓Za, ↓Zb, ↓Zc, ↓vdn, vup, List.map_nil, cond_true, cond_false, aop, Zg, ev, sput, Zf, Nat.reduceBEq, Yt, List.append_nil]
    refine ((aw1 G)).mono ?_
    rintro _ G ⟨rfl, hE9⟩
    refine hN6 [(0, Zd n), (1, v), (2, Zd e), (3, w), (8, .bool true), (9, .pointer (some ⟨H.length, 0, none⟩)), (10, .pointer (some ⟨H.length + 1, 0, none⟩)), (11, .int .i64 5), (44, .bool true)] _ _ ?_ (by simp (maxSteps := 2000000) only [vup, cond_true, cond_false, Nat.reduceBEq])
    clear hN6
    try clear N6
    refine Zi ?_
    simp (maxSteps := 2000000) only [↓Zy, vup, cond_true, cond_false, Zg, Nat.reduceBEq, Zv, Xw, tup]
  obtain ⟨k, hk⟩ : ∃ k : Nat, n = k := ⟨n.toNat, by simp only [Yx, Bool.and_eq_true, decide_eq_true_eq] at hval; omega⟩
  obtain ⟨ee, hee⟩ : ∃ ee : Nat, e = ee := ⟨e.toNat, by simp only [evB, Bool.and_eq_true, decide_eq_true_eq] at hev; omega⟩
  subst hk
  subst hee
  obtain ⟨hn2, hn5, hl1, hl6, hok⟩ := Vh hval
  have hev2 : (decide (0 ≤ ((ee : Nat) : Int)) && decide (((ee : Nat) : Int) < 2 ^ k)) = true := by rw [evB, Int.toNat_natCast] at hev; exact hev
  have hee2 : ee < 2 ^ k := by
    rw [Bool.and_eq_true, decide_eq_true_eq, decide_eq_true_eq] at hev2
    have := hev2.2
    exact_mod_cast this
  have hpk := pow_le (show k ≤ 62 by omega)
  have hp32 : (2 : Nat) ^ k ≤ 2 ^ 5 := Nat.pow_le_pow_right (by decide) hn5
  rw [Int.toNat_natCast] at hne
  rw [Int.toNat_natCast, Int.toNat_natCast] at h4
  have rbc := rbets_call (h := G) (n := ((k : Nat) : Int)) hvG hl
  rw [hval] at rbc
  have evc := event_call (h := G) (n := k) (e := ((ee : Nat) : Int)) (by omega)
  rw [hev2] at evc
  obtain ⟨s1, s2⟩ := bnd_sm (e := ee) hval hne
  obtain ⟨s3, s4⟩ := bnd_sm (e := 2 ^ k - 1 - ee) hval hne
  obtain ⟨k1, k2⟩ := bnd_compl hee2 hne
  have lohi : loQ k ee l ≤ hiQ k ee l := by
    obtain ⟨b, hb⟩ := List.exists_mem_of_ne_nil _ hne
    have := lo_hi_feas (e := ee) (corner_feas' hb)
    exact Rat.le_trans this.1 this.2
  have hprice := fun i (hi : i < l.length) (cc : Int) (hxy : l.getD i (0, 0) = (((ee : Nat) : Int), cc)) => bet_price hval hne hi hxy
  have hfeas := fun (p : Nat → Rat) (hp : Feas k l p) => lo_hi_feas (e := ee) hp
  have hb3 : bndV ((k : Nat) : Int) ((2 ^ k - 1 - ee : Nat) : Int) l = .tuple #[qV (loQ k (2 ^ k - 1 - ee) l), qV (hiQ k (2 ^ k - 1 - ee) l), .int .i64 0] := by
    have hev3 : evB ((k : Nat) : Int) ((2 ^ k - 1 - ee : Nat) : Int) = true := by
      rw [evB, Int.toNat_natCast, Bool.and_eq_true, decide_eq_true_eq, decide_eq_true_eq, ← pow_cast]; omega
    rw [bndV, if_pos ⟨hval, hev3⟩, Int.toNat_natCast, Int.toNat_natCast, if_neg hne]
  obtain ⟨lo, hlo⟩ : ∃ x, loQ k ee l = x := ⟨_, rfl⟩
  obtain ⟨hi, hhi⟩ : ∃ x, hiQ k ee l = x := ⟨_, rfl⟩
  obtain ⟨lo2, hlo2⟩ : ∃ x, loQ k (2 ^ k - 1 - ee) l = x := ⟨_, rfl⟩
  obtain ⟨hi2, hhi2⟩ : ∃ x, hiQ k (2 ^ k - 1 - ee) l = x := ⟨_, rfl⟩
  rw [hlo] at s1 k2 lohi h4
  rw [hhi] at s2 k1 lohi h4
  rw [hlo2] at s3 k1 hb3
  rw [hhi2] at s4 k2 hb3
  simp only [hlo, hhi] at hprice hfeas
  rw [h4] at hb
  obtain ⟨rfl, rfl, rfl, rfl, rfl⟩ := inj3 hb
  refine Zn fun M hM => ?_
  refine Ze fun N7 hN7 => ?_
  simp only [q9_2]
  refine Xt 8 fun N1 hN1 => ?_
  simp (maxSteps := 2000000) only [↓Za, ↓Zb, ↓Zc, ↓vdn, vup, List.map_cons, List.map_nil, cond_true, cond_false, aop, ev, sput, Zf, Yi, Yo, unK, Nat.reduceBEq, Yt, List.nil_append, List.append_nil, List.take_succ_cons, List.take_zero, n00]
  refine (rbc).mono ?_
  rintro _ G ⟨rfl, rfl⟩
  simp (maxSteps := 2000000) only [vup]
  refine hN1 _ _ ?_
  clear hN1 N1
  simp only [List.drop_succ_cons, List.drop_zero]
  simp (maxSteps := 2000000) only [↓Za, ↓Zb, ↓Zc, ↓vdn, vup, List.map_cons, List.map_nil, cond_true, cond_false, aop, Zg, ev, sput, Zf, unK, Nat.reduceBEq, Yt, List.nil_append, List.append_nil]
  refine (evc).mono ?_
  rintro _ G ⟨rfl, rfl⟩
  simp (maxSteps := 2000000) only [vup]
  refine hN7 [(0, Zd (k : Nat)), (1, v), (2, Zd (ee : Nat)), (3, w), (8, .bool false), (9, .pointer (some ⟨H.length, 0, none⟩)), (10, .pointer (some ⟨H.length + 1, 0, none⟩)), (11, .int .i64 0), (44, .bool false)] _ _ ?_ (by simp (maxSteps := 2000000) only [vup, cond_true, cond_false, Nat.reduceBEq])
  clear hN7
  try clear N7
  refine Xi rfl ?_
  refine Zi ?_
  simp (maxSteps := 2000000) only [↓Zw, Zg]
  refine hM [(0, Zd (k : Nat)), (1, v), (2, Zd (ee : Nat)), (3, w), (8, .bool false), (9, .pointer (some ⟨H.length, 0, none⟩)), (10, .pointer (some ⟨H.length + 1, 0, none⟩)), (11, .int .i64 0)] _ _ ?_ (by simp (maxSteps := 2000000) only [vup, cond_true, cond_false, Nat.reduceBEq])
  clear hM
  try clear M
  -- the other event
  have sh1 : subV .i64 (subV .i64 (2 ^ k) 1) ((ee : Nat) : Int) = ((2 ^ k - 1 - ee : Nat) : Int) := by
    rw [all_worlds (show k ≤ 62 by omega), subV_id (by omega) (by omega)]; omega
  have hnil : l ≠ [] := by intro h; rw [h] at hl1; simp at hl1
  have hof := (of_own hvG hl).named (by rw [List.take_of_length_le (by omega)]; exact hnil)
  rw [List.take_of_length_le (show l.length ≤ 9 by omega)] at hof
  obtain ⟨G1, hG1⟩ : ∃ X, X = G ++ [Blk.ints (Yb l) 92 false] := ⟨_, rfl⟩
  rw [← hG1] at hof
  have hEG1 : Ext (fun _ => False) G G1 := by rw [hG1]; exact Ext.app _ _ _
  have hu2 : PairSl G1 (.slice (some ⟨G.length, 0, some 0⟩) l.length l.length) l := by
    refine OwnP.pair (e := 92) (.inr ⟨G.length, [], by simp, ?_⟩)
    rw [hG1, Zz]; simp [Yb]
  have pb2 : Xc prog 17 [Zd (k : Nat), .slice (some ⟨G.length, 0, some 0⟩) l.length l.length, Zd ((2 ^ k - 1 - ee : Nat) : Int)] G1 (.tuple #[frV lo2.num lo2.den, frV hi2.num hi2.den, .int .i64 0]) := by
    refine ACall.forget (Low.tuple fun x hx => ?_) ((progBounds_call (n := ((k : Nat) : Int)) (e := ((2 ^ k - 1 - ee : Nat) : Int)) hu2 (by omega)).mono fun r h' hh => ⟨?_, hh.1⟩)
    · simp only [List.mem_cons, List.not_mem_nil, or_false] at hx
      rcases hx with rfl | rfl | rfl
      · exact Low.agg fun x hx => by
          simp only [List.mem_cons, List.not_mem_nil, or_false] at hx
          rcases hx with rfl | rfl <;> exact Low.int _ _
      · exact Low.agg fun x hx => by
          simp only [List.mem_cons, List.not_mem_nil, or_false] at hx
          rcases hx with rfl | rfl <;> exact Low.int _ _
      · exact Low.int _ _
    · rw [hh.2, hb3]; rfl
  obtain ⟨G2, hG2⟩ : ∃ X, X = G1 ++ [fC lo2.num lo2.den] ++ [fC hi2.num hi2.den] := ⟨_, rfl⟩
  have hEG2 : Ext (fun _ => False) G G2 := by rw [hG2]; exact hEG1.trans (e2 ..)
  have b12 : G2[G1.length]? = some (fC lo2.num lo2.den) := by rw [hG2]; exact b2_0 ..
  have b13 : G2[G1.length + 1]? = some (fC hi2.num hi2.den) := by rw [hG2]; exact b2_1 ..
  have d9 := (hEG2.2 _ (Yl b9) id).trans b9
  have d10 := (hEG2.2 _ (Yl b10) id).trans b10
  refine Ze fun N8 hN8 => ?_
  simp only [q9_4]
  refine aw_drawM (fun _ => True) [(8, 1)] [(13, 12, [2, 8]), (14, 13, [2, 8, 13])] (by kernel_rfl) (by kernel_rfl) (by kernel_rfl) (by kernel_rfl) (by kernel_rfl) (fun p hp => by simp only [List.mem_cons, List.not_mem_nil, or_false] at hp; rcases hp with rfl | rfl <;> rfl) trivial ?_
  simp (maxSteps := 2000000) only [↓dopsR_nil, ↓vdn, vup, List.map_cons, List.map_nil, cond_true, cond_false, aop, Zg, ev, sput, Zf, Yi, Yo, Nat.reduceBEq, Nat.reduceAdd, Yt, List.nil_append, List.append_nil]
  refine ⟨_, _, hof, .tuple #[frV lo2.num lo2.den, frV hi2.num hi2.den, .int .i64 0], G1, by rw [shl1 (by omega), sh1]; exact pb2, rfl, ?_⟩
  simp (maxSteps := 2000000) only [extr_30, extr_31, extr_32, tyf, frV, Xl, Yn, List.length_append, List.length_singleton]
  rw [st7, st8, ← hG2]
  refine hN8 [(0, Zd (k : Nat)), (1, v), (2, Zd (ee : Nat)), (3, w), (8, .bool false), (9, .pointer (some ⟨H.length, 0, none⟩)), (10, .pointer (some ⟨H.length + 1, 0, none⟩)), (11, .int .i64 0), (12, .pointer (some ⟨G1.length, 0, none⟩)), (13, .pointer (some ⟨G1.length + 1, 0, none⟩)), (14, .int .i64 0)] _ _ ?_ (by simp (maxSteps := 2000000) only [vup, cond_true, cond_false, Nat.reduceBEq])
  clear hN8
  try clear N8
  clear st7 st8 pb2 hof hu2 hG2 hG1 hG
  have hvG2 := hvG.ext hEG2
  have hwG2 := hwG.ext hEG2
  have u1 := fun z => unit_call (h := z) s1
  have u2 := fun z => unit_call (h := z) s2
  have u3 := fun z => unit_call (h := z) s3
  have u4 := fun z => unit_call (h := z) s4
  have rl := fun z => SmQ.rless s2 s1 z
  rw [decide_eq_false (Rat.not_lt.2 lohi)] at rl
  have dn : ∀ {q : Rat}, SmQ q → (0 ≤ (q.den : Int) ∧ (q.den : Int) ≤ 720) := fun h => ⟨by omega, by have := h.2.2; omega⟩
  have p1 := small_mul s2.num (dn s3)
  have p2 := small_mul s3.num (dn s2)
  have p3 := small_mul (dn s2) (dn s3)
  have p4 := small_mul s1.num (dn s4)
  have p5 := small_mul s4.num (dn s1)
  have p6 := small_mul (dn s1) (dn s4)
  have o1 := one_nums (y := hi) (u := lo2) (by rw [k1]; grind)
  have o2 := one_nums (y := lo) (u := hi2) (by rw [k2]; grind)
  have m1 : mulV .i64 hi.num (lo2.den : Int) = hi.num * lo2.den := mulN (by omega)
  have m2 : mulV .i64 lo2.num (hi.den : Int) = lo2.num * hi.den := mulN (by omega)
  have m3 : mulV .i64 (hi.den : Int) (lo2.den : Int) = hi.den * lo2.den := mulN (by omega)
  have m4 : mulV .i64 lo.num (hi2.den : Int) = lo.num * hi2.den := mulN (by omega)
  have m5 : mulV .i64 hi2.num (lo.den : Int) = hi2.num * lo.den := mulN (by omega)
  have m6 : mulV .i64 (lo.den : Int) (hi2.den : Int) = lo.den * hi2.den := mulN (by omega)
  have a1 : addV .i64 (hi.num * lo2.den) (lo2.num * hi.den) = hi.den * lo2.den := by rw [addN (by omega), o1]
  have a2' : addV .i64 (lo.num * hi2.den) (hi2.num * lo.den) = lo.den * hi2.den := by rw [addN (by omega), o2]
  have ne0 : ∀ z : Int, (z != z) = false := fun z => by simp
  refine Zn fun M hM => ?_
  refine Ze fun N9 hN9 => ?_
  simp only [q9_5]
  refine Xt 7 fun N1 hN1 => ?_
  simp (maxSteps := 2000000) only [↓Za, ↓Zb, ↓Zc, ↓vdn, vup, List.map_cons, List.map_nil, cond_true, cond_false, aop, ev, sput, Zf, Yi, Yo, unK, Nat.reduceBEq, Yt, List.nil_append, List.append_nil, List.take_succ_cons, List.take_zero, n00, Wi d9]
  refine ((u1 G2)).mono ?_
  rintro _ G2 ⟨rfl, rfl⟩
  simp (maxSteps := 2000000) only [vup]
  refine hN1 _ _ ?_
  clear hN1 N1
  simp only [List.drop_succ_cons, List.drop_zero]
  refine Xt 5 fun N1 hN1 => ?_
  simp (maxSteps := 2000000) only [↓Za, ↓Zb, ↓Zc, ↓vdn, vup, List.map_cons, List.map_nil, cond_true, cond_false, aop, ev, sput, Zf, unK, Nat.reduceBEq, Yt, List.nil_append, List.append_nil, List.take_succ_cons, List.take_zero, Wi d10]
  refine ((u2 G2)).mono ?_
  rintro _ G2 ⟨rfl, rfl⟩
  simp (maxSteps := 2000000) only [vup]
  refine hN1 _ _ ?_
  clear hN1 N1
  simp only [List.drop_succ_cons, List.drop_zero]
  refine Xt 5 fun N1 hN1 => ?_
  simp (maxSteps := 2000000) only [↓Za, ↓Zb, ↓Zc, ↓vdn, vup, List.map_cons, List.map_nil, cond_true, cond_false, aop, ev, sput, Zf, unK, Nat.reduceBEq, Yt, List.nil_append, List.append_nil, List.take_succ_cons, List.take_zero, Wi b12]
  refine ((u3 G2)).mono ?_
  rintro _ G2 ⟨rfl, rfl⟩
  simp (maxSteps := 2000000) only [vup]
  refine hN1 _ _ ?_
  clear hN1 N1
  simp only [List.drop_succ_cons, List.drop_zero]
  refine Xt 5 fun N1 hN1 => ?_
  simp (maxSteps := 2000000) only [↓Za, ↓Zb, ↓Zc, ↓vdn, vup, List.map_cons, List.map_nil, cond_true, cond_false, aop, ev, sput, Zf, unK, Nat.reduceBEq, Yt, List.nil_append, List.append_nil, List.take_succ_cons, List.take_zero, Wi b13]
  refine ((u4 G2)).mono ?_
  rintro _ G2 ⟨rfl, rfl⟩
  simp (maxSteps := 2000000) only [vup]
  refine hN1 _ _ ?_
  clear hN1 N1
  simp only [List.drop_succ_cons, List.drop_zero]
  refine Xt 5 fun N1 hN1 => ?_
  simp (maxSteps := 2000000) only [↓Za, ↓Zb, ↓Zc, ↓vdn, vup, List.map_cons, List.map_nil, cond_true, cond_false, aop, ev, sput, Zf, Nat.reduceBEq, Yt, List.nil_append, List.append_nil, List.take_succ_cons, List.take_zero, Wi d9, Wi d10]
  refine ((rl G2)).mono ?_
  rintro _ G2 ⟨rfl, rfl⟩
  refine hN1 _ _ ?_
  clear hN1 N1
  simp only [List.drop_succ_cons, List.drop_zero]
  refine Xt 19 fun N1 hN1 => ?_
  simp (maxSteps := 2000000) only [↓Za, ↓Zb, ↓Zc, ↓vdn, vup, cond_true, cond_false, aop, ev, sput, Zf, Yi, Yo, Nat.reduceBEq, tyf, List.take_succ_cons, List.take_zero, fA0, fA1, Wh d10, Xs d10, Wh b12, Xs b12, m1, m2, m3, a1, ne0]
  refine hN1 _ _ ?_
  clear hN1 N1
  simp only [List.drop_succ_cons, List.drop_zero]
  simp (maxSteps := 2000000) only [↓Za, ↓Zb, ↓Zc, ↓vdn, vup, cond_true, cond_false, aop, Zg, ev, sput, Zf, Yi, Yo, Nat.reduceBEq, tyf, fA0, fA1, Wh d9, Xs d9, Wh b13, Xs b13, m4, m5, m6, a2', ne0]
  refine hN9 [(0, Zd (k : Nat)), (1, v), (2, Zd (ee : Nat)), (3, w), (8, .bool false), (9, .pointer (some ⟨H.length, 0, none⟩)), (10, .pointer (some ⟨H.length + 1, 0, none⟩)), (11, .int .i64 0), (12, .pointer (some ⟨G1.length, 0, none⟩)), (13, .pointer (some ⟨G1.length + 1, 0, none⟩)), (14, .int .i64 0), (131, .bool false)] _ _ ?_ (by simp (maxSteps := 2000000) only [vup, cond_true, cond_false, Nat.reduceBEq])
  clear hN9
  try clear N9
  refine Xi rfl ?_
  refine Zi ?_
  simp (maxSteps := 2000000) only [↓Zw, Zg]
  refine hM [(0, Zd (k : Nat)), (1, v), (2, Zd (ee : Nat)), (3, w), (8, .bool false), (9, .pointer (some ⟨H.length, 0, none⟩)), (10, .pointer (some ⟨H.length + 1, 0, none⟩)), (11, .int .i64 0), (12, .pointer (some ⟨G1.length, 0, none⟩)), (13, .pointer (some ⟨G1.length + 1, 0, none⟩)), (14, .int .i64 0)] _ _ ?_ (by simp (maxSteps := 2000000) only [vup, cond_true, cond_false, Nat.reduceBEq])
  clear hM
  try clear M
  clear p1 p2 p3 p4 p5 p6 o1 o2 m1 m2 m3 m4 m5 m6 a1 a2' u1 u2 u3 u4 rl
  -- the bets on this event
  refine Zn fun Z hZ => ?_
  refine Ze fun N10 hN10 => ?_
  simp (maxSteps := 2000000) only [↓Za, ↓Zb, ↓Zc, vup, List.map_cons, List.map_nil, cond_true, cond_false, aop, Zg, ev, sput, Zf, Zl, Nat.reduceBEq, tyf, hvG2.len]
  refine hN10 [(0, Zd (k : Nat)), (1, v), (2, Zd (ee : Nat)), (3, w), (8, .bool false), (9, .pointer (some ⟨H.length, 0, none⟩)), (10, .pointer (some ⟨H.length + 1, 0, none⟩)), (11, .int .i64 0), (12, .pointer (some ⟨G1.length, 0, none⟩)), (13, .pointer (some ⟨G1.length + 1, 0, none⟩)), (14, .int .i64 0), (132, v), (133, Zd (l.length : Nat)), (134, .int .i64 0)] _ _ ?_ (by simp (maxSteps := 2000000) only [vup, cond_true, cond_false, Nat.reduceBEq])
  clear hN10
  try clear N10
  refine Zp ?_
  refine Ya fun Q hQ => ?_
  refine Xb (γ := Nat × Zh) (fun s => s.1 ≤ l.length ∧ Ext (fun _ => False) G2 s.2)
    (fun s => ([(0, Zd (k : Nat)), (1, v), (2, Zd (ee : Nat)), (3, w), (8, .bool false), (9, .pointer (some ⟨H.length, 0, none⟩)), (10, .pointer (some ⟨H.length + 1, 0, none⟩)), (11, .int .i64 0), (12, .pointer (some ⟨G1.length, 0, none⟩)), (13, .pointer (some ⟨G1.length + 1, 0, none⟩)), (14, .int .i64 0), (132, v), (133, Zd (l.length : Nat)), (134, Zd (s.1 : Nat))], s.2)) (fun s => l.length - s.1) (0, G2) ⟨Nat.zero_le _, Ext.refl _ _⟩ (by simp (maxSteps := 2000000) only [vup, cond_true, cond_false, Nat.reduceBEq, Int.natCast_zero]) rfl ?_
  rintro ⟨i, hp⟩ ⟨hk, hEp⟩
  simp only at hk hEp
  refine Ya fun Q2 hQ2 => ?_
  simp only [l9_0]
  by_cases hin : (i : Int) < l.length
  · have hk' : i < l.length := by omega
    have hvp := hvG2.ext hEp
    obtain ⟨⟨x, y⟩, hxy⟩ : ∃ p, l.getD i (0, 0) = p := ⟨_, rfl⟩
    have hb := hok i hk'
    rw [hxy] at hb
    simp only [okB, Bool.and_eq_true, decide_eq_true_eq] at hb
    obtain ⟨F, hF⟩ : ∃ G, G = hp ++ [rB x y] := ⟨_, rfl⟩
    have c16 : F[hp.length]? = some (rB x y) := by rw [hF]; exact Zz _ _
    have hEF : Ext (fun _ => False) G2 F := by rw [hF]; exact hEp.trans (Ext.app _ _ _)
    have f9 := (hEF.2 _ (Yl d9) id).trans d9
    have f10 := (hEF.2 _ (Yl d10) id).trans d10
    refine Ze fun N11 hN11 => ?_
    simp (maxSteps := 2000000) only [↓Za, ↓Zb, ↓Zc, vup, cond_true, cond_false, aop, Zg, ev, sput, Zf, Yi, Yo, Nat.reduceBEq, hin]
    refine hN11 [(0, Zd (k : Nat)), (1, v), (2, Zd (ee : Nat)), (3, w), (8, .bool false), (9, .pointer (some ⟨H.length, 0, none⟩)), (10, .pointer (some ⟨H.length + 1, 0, none⟩)), (11, .int .i64 0), (12, .pointer (some ⟨G1.length, 0, none⟩)), (13, .pointer (some ⟨G1.length + 1, 0, none⟩)), (14, .int .i64 0), (132, v), (133, Zd (l.length : Nat)), (134, Zd (i : Nat)), (135, .bool true)] _ _ ?_ (by simp (maxSteps := 2000000) only [vup, cond_true, cond_false, Nat.reduceBEq])
    clear hN11
    try clear N11
    refine Ze fun N12 hN12 => ?_
    simp (maxSteps := 2000000) only [↓Zw, ↓vdn, vup, cond_true, cond_false, Zg, ev, Nat.reduceBEq]
    refine hN12 [(0, Zd (k : Nat)), (1, v), (2, Zd (ee : Nat)), (3, w), (8, .bool false), (9, .pointer (some ⟨H.length, 0, none⟩)), (10, .pointer (some ⟨H.length + 1, 0, none⟩)), (11, .int .i64 0), (12, .pointer (some ⟨G1.length, 0, none⟩)), (13, .pointer (some ⟨G1.length + 1, 0, none⟩)), (14, .int .i64 0), (132, v), (133, Zd (l.length : Nat)), (134, Zd (i : Nat))] _ _ ?_ (by simp (maxSteps := 2000000) only [vup, cond_true, cond_false, Nat.reduceBEq])
    clear hN12
    try clear N12
    refine Zn fun B hB => ?_
    refine Zp ?_
    refine Ze fun N13 hN13 => ?_
    simp (maxSteps := 2000000) only [↓Za, ↓Zb, ↓Zc, vup, cond_true, cond_false, aop, Zg, ev, sput, Zf, Nat.reduceBEq, tyf, hvp.idx el_22 esz_24 hk', hvp.load shp_24 hk', hxy, Xl, Yn, storeRt (Zz hp zR) rfl, Xy]
    rw [← hF]
    refine hN13 [(0, Zd (k : Nat)), (1, v), (2, Zd (ee : Nat)), (3, w), (8, .bool false), (9, .pointer (some ⟨H.length, 0, none⟩)), (10, .pointer (some ⟨H.length + 1, 0, none⟩)), (11, .int .i64 0), (12, .pointer (some ⟨G1.length, 0, none⟩)), (13, .pointer (some ⟨G1.length + 1, 0, none⟩)), (14, .int .i64 0), (16, .pointer (some ⟨hp.length, 0, none⟩)), (132, v), (133, Zd (l.length : Nat)), (134, Zd (i : Nat))] _ _ ?_ (by simp (maxSteps := 2000000) only [vup, cond_true, cond_false, Nat.reduceBEq])
    clear hN13
    try clear N13
    refine Ze fun N14 hN14 => ?_
    simp only [q9_10]
    by_cases hx : x = ((ee : Nat) : Int)
    · have hpr := hprice i hk' y (by rw [hxy, hx])
      have hcn := cents_num hpr.1
      have hlh : hi = lo := by rw [hpr.1, hpr.2]
      have hd1 := dn s1
      have hn1 := s1.num
      have p1 := small_mul (a := y) (b := (lo.den : Int)) (by omega) hd1
      have m7 : mulV .i64 12 lo.num = y * lo.den := by rw [mulN (by omega), hcn]
      have m8 : mulV .i64 y (lo.den : Int) = y * lo.den := mulN (by omega)
      rw [hlh] at f10
      have hx0 : (x == ((ee : Nat) : Int)) = true := by rw [hx]; simp
      have nl : ([lo.num, (lo.den : Int)] != [lo.num, (lo.den : Int)]) = false := by simp
      refine Xt 9 fun N1 hN1 => ?_
      simp (maxSteps := 2000000) only [↓Za, ↓Zb, ↓Zc, ↓vdn, vup, cond_true, cond_false, aop, ev, sput, Zf, Yi, Yo, Nat.reduceBEq, Nat.reduceAdd, tyf, List.take_succ_cons, List.take_zero, rA0, loadR0 c16, hx0, Wi f9, Wi f10, Xa, Option.map_some, List.length_cons, List.length_nil, Nat.zero_add, eqF, nl]
      refine hN1 _ _ ?_
      clear hN1 N1
      simp only [List.drop_succ_cons, List.drop_zero]
      simp (maxSteps := 2000000) only [↓Za, ↓Zb, ↓Zc, ↓vdn, vup, cond_true, cond_false, aop, Zg, ev, sput, Zf, Yi, Yo, Nat.reduceBEq, tyf, fA0, fA1, rA1, loadR1 c16, Wh f9, Xs f9, m7, m8, ne0]
      refine hN14 [(0, Zd (k : Nat)), (1, v), (2, Zd (ee : Nat)), (3, w), (8, .bool false), (9, .pointer (some ⟨H.length, 0, none⟩)), (10, .pointer (some ⟨H.length + 1, 0, none⟩)), (11, .int .i64 0), (12, .pointer (some ⟨G1.length, 0, none⟩)), (13, .pointer (some ⟨G1.length + 1, 0, none⟩)), (14, .int .i64 0), (16, .pointer (some ⟨hp.length, 0, none⟩)), (132, v), (133, Zd (l.length : Nat)), (134, Zd (i : Nat)), (157, .bool false)] _ _ ?_ (by simp (maxSteps := 2000000) only [vup, cond_true, cond_false, Nat.reduceBEq])
      clear hN14
      try clear N14
      refine Xi rfl ?_
      refine Zi ?_
      simp (maxSteps := 2000000) only [↓Zw, Zg, Zs]
      refine hB [(0, Zd (k : Nat)), (1, v), (2, Zd (ee : Nat)), (3, w), (8, .bool false), (9, .pointer (some ⟨H.length, 0, none⟩)), (10, .pointer (some ⟨H.length + 1, 0, none⟩)), (11, .int .i64 0), (12, .pointer (some ⟨G1.length, 0, none⟩)), (13, .pointer (some ⟨G1.length + 1, 0, none⟩)), (14, .int .i64 0), (132, v), (133, Zd (l.length : Nat)), (134, Zd (i : Nat))] _ _ ?_ (by simp (maxSteps := 2000000) only [vup, cond_true, cond_false, Nat.reduceBEq])
      clear hB
      try clear B
      refine Zi ?_
      simp (maxSteps := 2000000) only [↓Za, ↓Zb, ↓Zc, vup, cond_true, cond_false, aop, ev, sput, Zf, Yi, Yo, Nat.reduceBEq, add1 (show i < 9223372036854775807 by omega)]
      exact hQ2 _ _ _ ⟨(i + 1, F), ⟨hk', hEF⟩, by simp only; omega, by simp (maxSteps := 2000000) only [vup, cond_true, cond_false, Nat.reduceBEq], rfl⟩
    · have hx0 : (x == ((ee : Nat) : Int)) = false := by simpa using hx
      simp (maxSteps := 2000000) only [↓Za, ↓Zb, ↓Zc, ↓vdn, vup, cond_true, cond_false, aop, Zg, ev, sput, Zf, Yi, Yo, Nat.reduceBEq, tyf, rA0, loadR0 c16, hx0]
      refine hN14 [(0, Zd (k : Nat)), (1, v), (2, Zd (ee : Nat)), (3, w), (8, .bool false), (9, .pointer (some ⟨H.length, 0, none⟩)), (10, .pointer (some ⟨H.length + 1, 0, none⟩)), (11, .int .i64 0), (12, .pointer (some ⟨G1.length, 0, none⟩)), (13, .pointer (some ⟨G1.length + 1, 0, none⟩)), (14, .int .i64 0), (16, .pointer (some ⟨hp.length, 0, none⟩)), (132, v), (133, Zd (l.length : Nat)), (134, Zd (i : Nat)), (157, .bool false)] _ _ ?_ (by simp (maxSteps := 2000000) only [vup, cond_true, cond_false, Nat.reduceBEq])
      clear hN14
      try clear N14
      refine Xi rfl ?_
      refine Zi ?_
      simp (maxSteps := 2000000) only [↓Zw, Zg, Zs]
      refine hB [(0, Zd (k : Nat)), (1, v), (2, Zd (ee : Nat)), (3, w), (8, .bool false), (9, .pointer (some ⟨H.length, 0, none⟩)), (10, .pointer (some ⟨H.length + 1, 0, none⟩)), (11, .int .i64 0), (12, .pointer (some ⟨G1.length, 0, none⟩)), (13, .pointer (some ⟨G1.length + 1, 0, none⟩)), (14, .int .i64 0), (132, v), (133, Zd (l.length : Nat)), (134, Zd (i : Nat))] _ _ ?_ (by simp (maxSteps := 2000000) only [vup, cond_true, cond_false, Nat.reduceBEq])
      clear hB
      try clear B
      refine Zi ?_
      simp (maxSteps := 2000000) only [↓Za, ↓Zb, ↓Zc, vup, cond_true, cond_false, aop, ev, sput, Zf, Yi, Yo, Nat.reduceBEq, add1 (show i < 9223372036854775807 by omega)]
      exact hQ2 _ _ _ ⟨(i + 1, F), ⟨hk', hEF⟩, by simp only; omega, by simp (maxSteps := 2000000) only [vup, cond_true, cond_false, Nat.reduceBEq], rfl⟩
  · obtain rfl : i = l.length := by omega
    refine Ze fun N15 hN15 => ?_
    simp (maxSteps := 2000000) only [↓Za, ↓Zb, ↓Zc, vup, cond_true, cond_false, aop, Zg, ev, sput, Zf, Yi, Yo, Nat.reduceBEq, hin]
    refine hN15 [(0, Zd (k : Nat)), (1, v), (2, Zd (ee : Nat)), (3, w), (8, .bool false), (9, .pointer (some ⟨H.length, 0, none⟩)), (10, .pointer (some ⟨H.length + 1, 0, none⟩)), (11, .int .i64 0), (12, .pointer (some ⟨G1.length, 0, none⟩)), (13, .pointer (some ⟨G1.length + 1, 0, none⟩)), (14, .int .i64 0), (132, v), (133, Zd (l.length : Nat)), (134, Zd l.length), (135, .bool false)] _ _ ?_ (by simp (maxSteps := 2000000) only [vup, cond_true, cond_false, Nat.reduceBEq])
    clear hN15
    try clear N15
    refine Ze fun N16 hN16 => ?_
    simp (maxSteps := 2000000) only [↓Xh, ↓vdn, vup, cond_true, cond_false, Zg, ev, Nat.reduceBEq]
    refine hQ2 _ _ _ (hQ _ _ _ ?_)
    simp (maxSteps := 2000000) only [Zg, Zs, Zv, if_true]
    refine hZ [(0, Zd (k : Nat)), (1, v), (2, Zd (ee : Nat)), (3, w), (8, .bool false), (9, .pointer (some ⟨H.length, 0, none⟩)), (10, .pointer (some ⟨H.length + 1, 0, none⟩)), (11, .int .i64 0), (12, .pointer (some ⟨G1.length, 0, none⟩)), (13, .pointer (some ⟨G1.length + 1, 0, none⟩)), (14, .int .i64 0)] _ _ ?_ (by simp (maxSteps := 2000000) only [vup, cond_true, cond_false, Nat.reduceBEq])
    clear hZ
    try clear Z
    clear hQ2 hQ
    have hvp := hvG2.ext hEp
    have hwp := hwG2.ext hEp
    have f9 := (hEp.2 _ (Yl d9) id).trans d9
    have f10 := (hEp.2 _ (Yl d10) id).trans d10
    -- whether the belief agrees
    refine Ze fun N17 hN17 => ?_
    simp (maxSteps := 2000000) only [↓Za, ↓Zb, ↓Zc, vup, List.map_cons, List.map_nil, cond_true, cond_false, aop, Zg, ev, sput, Zf, Nat.reduceBEq, Yt, List.nil_append, List.append_nil]
    refine (of_copy hvp hl).mono ?_
    rintro u1 g1 ⟨hu1, hE1⟩
    refine (fracs_call (hwp.ext hE1)).mono ?_
    rintro v4 g2 ⟨hv4, hE2⟩
    refine (progAgrees_call (n := ((k : Nat) : Int)) (hu1.ext hE2) (by rw [List.length_take]; omega) hv4 (by rw [List.length_take]; omega) (fun p hp => hxb p (List.mem_of_mem_take hp))).mono ?_
    rintro _ F ⟨hE3, hr⟩
    rw [List.take_of_length_le (show l.length ≤ 9 by omega)] at hr
    obtain ⟨ok, f, hr2, hcase⟩ : ∃ (ok : Bool) (f : Int), (if Yx k l = true ∧ Wk k (b.take 8) = true then Value.tuple #[.bool (agB l (b.take 8)), .int .i64 0] else .tuple #[.bool false, .int .i64 2]) = .tuple #[.bool ok, .int .i64 f] ∧ ((Wk k b = true ∧ ok = agB l b ∧ f = 0) ∨ (ok = false ∧ f = 2)) := by
      rw [chances_take (by omega)]
      cases hc : Wk k b with
      | false => exact ⟨false, 2, by rw [if_neg (by simp)], .inr ⟨rfl, rfl⟩⟩
      | true =>
        have t2 : b.take 8 = b := List.take_of_length_le (by have := (chances_chn hc).2; omega)
        exact ⟨agB l b, 0, by rw [if_pos ⟨hval, rfl⟩, t2], .inl ⟨rfl, rfl, rfl⟩⟩
    rw [hr2] at hr
    rw [hr]
    simp (maxSteps := 2000000) only [extr_20, extr_21]
    refine hN17 [(0, Zd (k : Nat)), (1, v), (2, Zd (ee : Nat)), (3, w), (8, .bool false), (9, .pointer (some ⟨H.length, 0, none⟩)), (10, .pointer (some ⟨H.length + 1, 0, none⟩)), (11, .int .i64 0), (12, .pointer (some ⟨G1.length, 0, none⟩)), (13, .pointer (some ⟨G1.length + 1, 0, none⟩)), (14, .int .i64 f), (17, .bool ok)] _ _ ?_ (by simp (maxSteps := 2000000) only [vup, cond_true, cond_false, Nat.reduceBEq])
    clear hN17
    try clear N17
    have hEF := hE1.trans (hE2.trans hE3)
    have hvF := hvp.ext hEF
    have hwF := hwp.ext hEF
    have h9 := (hEF.2 _ (Yl f9) id).trans f9
    have h10 := (hEF.2 _ (Yl f10) id).trans f10
    clear hr hr2 hu1 hv4 hE1 hE2 hE3
    refine Zn fun M hM => ?_
    rcases hcase with ⟨hc, hok2, rfl⟩ | ⟨rfl, rfl⟩
    rotate_left
    · have _t : True := trivial
      refine Ze fun N18 hN18 => ?_
      simp (maxSteps := 2000000) only [↓Za, ↓Zb, ↓Zc, ↓vdn, vup, cond_true, cond_false, aop, Zg, ev, sput, Zf, Yi, Yo, Nat.reduceBEq, n20]
      refine hN18 [(0, Zd (k : Nat)), (1, v), (2, Zd (ee : Nat)), (3, w), (8, .bool false), (9, .pointer (some ⟨H.length, 0, none⟩)), (10, .pointer (some ⟨H.length + 1, 0, none⟩)), (11, .int .i64 0), (12, .pointer (some ⟨G1.length, 0, none⟩)), (13, .pointer (some ⟨G1.length + 1, 0, none⟩)), (14, .int .i64 2), (17, .bool false), (173, .bool true)] _ _ ?_ (by simp (maxSteps := 2000000) only [vup, cond_true, cond_false, Nat.reduceBEq])
      clear hN18
      try clear N18
      refine Wd rfl ?_
      refine Ze fun N19 hN19 => ?_
      simp only [q9_15]
      refine Xt 6 fun N1 hN1 => ?_
      simp (maxSteps := 2000000) only [↓Za, ↓Zb, ↓Zc, ↓vdn, vup, cond_true, cond_false, aop, ev, sput, Zf, Yi, Yo, Nat.reduceBEq, List.take_succ_cons, List.take_zero, r20, r22]
      refine hN1 _ _ ?_
      clear hN1 N1
      simp only [List.drop_succ_cons, List.drop_zero]
      simp (maxSteps := 2000000) only [↓Za, ↓Zb, ↓Zc, ↓vdn, vup, List.map_nil, cond_true, cond_false, aop, Zg, ev, sput, Zf, Nat.reduceBEq, Yt, List.append_nil]
      refine ((aw1 F)).mono ?_
      rintro _ F ⟨rfl, hE9⟩
      refine hN19 [(0, Zd (k : Nat)), (1, v), (2, Zd (ee : Nat)), (3, w), (8, .bool true), (9, .pointer (some ⟨H.length, 0, none⟩)), (10, .pointer (some ⟨H.length + 1, 0, none⟩)), (11, .int .i64 0), (12, .pointer (some ⟨G1.length, 0, none⟩)), (13, .pointer (some ⟨G1.length + 1, 0, none⟩)), (14, .int .i64 2), (17, .bool false), (173, .bool true)] _ _ ?_ (by simp (maxSteps := 2000000) only [vup, cond_true, cond_false, Nat.reduceBEq])
      clear hN19
      try clear N19
      refine Zi ?_
      simp (maxSteps := 2000000) only [↓Zy, vup, cond_true, cond_false, Zg, Nat.reduceBEq, Zv, Xw, tup]
    cases hag : agB l b with
    | false =>
      rw [hag] at hok2
      subst hok2
      refine Ze fun N20 hN20 => ?_
      simp (maxSteps := 2000000) only [↓Za, ↓Zb, ↓Zc, ↓vdn, vup, cond_true, cond_false, aop, Zg, ev, sput, Zf, Yi, Yo, unK, Nat.reduceBEq, n00]
      refine hN20 [(0, Zd (k : Nat)), (1, v), (2, Zd (ee : Nat)), (3, w), (8, .bool false), (9, .pointer (some ⟨H.length, 0, none⟩)), (10, .pointer (some ⟨H.length + 1, 0, none⟩)), (11, .int .i64 0), (12, .pointer (some ⟨G1.length, 0, none⟩)), (13, .pointer (some ⟨G1.length + 1, 0, none⟩)), (14, .int .i64 0), (17, .bool false), (173, .bool true)] _ _ ?_ (by simp (maxSteps := 2000000) only [vup, cond_true, cond_false, Nat.reduceBEq])
      clear hN20
      try clear N20
      refine Wd rfl ?_
      refine Ze fun N21 hN21 => ?_
      simp only [q9_15]
      refine Xt 6 fun N1 hN1 => ?_
      simp (maxSteps := 2000000) only [↓Za, ↓Zb, ↓Zc, ↓vdn, vup, cond_true, cond_false, aop, ev, sput, Zf, Yi, Yo, Nat.reduceBEq, List.take_succ_cons, List.take_zero, r00]
      refine hN1 _ _ ?_
      clear hN1 N1
      simp only [List.drop_succ_cons, List.drop_zero]
      simp (maxSteps := 2000000) only [↓Za, ↓Zb, ↓Zc, ↓vdn, vup, List.map_nil, cond_true, cond_false, aop, Zg, ev, sput, Zf, Nat.reduceBEq, Yt, List.append_nil]
      refine ((aw1 F)).mono ?_
      rintro _ F ⟨rfl, hE9⟩
      refine hN21 [(0, Zd (k : Nat)), (1, v), (2, Zd (ee : Nat)), (3, w), (8, .bool true), (9, .pointer (some ⟨H.length, 0, none⟩)), (10, .pointer (some ⟨H.length + 1, 0, none⟩)), (11, .int .i64 0), (12, .pointer (some ⟨G1.length, 0, none⟩)), (13, .pointer (some ⟨G1.length + 1, 0, none⟩)), (14, .int .i64 0), (17, .bool false), (173, .bool true)] _ _ ?_ (by simp (maxSteps := 2000000) only [vup, cond_true, cond_false, Nat.reduceBEq])
      clear hN21
      try clear N21
      refine Zi ?_
      simp (maxSteps := 2000000) only [↓Zy, vup, cond_true, cond_false, Zg, Nat.reduceBEq, Zv, Xw, tup]
    | true =>
    rw [hag] at hok2
    subst hok2
    refine Ze fun N22 hN22 => ?_
    simp (maxSteps := 2000000) only [↓Za, ↓Zb, ↓Zc, ↓vdn, vup, cond_true, cond_false, aop, Zg, ev, sput, Zf, Yi, Yo, unK, Nat.reduceBEq, n00]
    refine hN22 [(0, Zd (k : Nat)), (1, v), (2, Zd (ee : Nat)), (3, w), (8, .bool false), (9, .pointer (some ⟨H.length, 0, none⟩)), (10, .pointer (some ⟨H.length + 1, 0, none⟩)), (11, .int .i64 0), (12, .pointer (some ⟨G1.length, 0, none⟩)), (13, .pointer (some ⟨G1.length + 1, 0, none⟩)), (14, .int .i64 0), (17, .bool true), (173, .bool false)] _ _ ?_ (by simp (maxSteps := 2000000) only [vup, cond_true, cond_false, Nat.reduceBEq])
    clear hN22
    try clear N22
    refine Xi rfl ?_
    refine Zi ?_
    simp (maxSteps := 2000000) only [↓Zw, Zg]
    refine hM [(0, Zd (k : Nat)), (1, v), (2, Zd (ee : Nat)), (3, w), (8, .bool false), (9, .pointer (some ⟨H.length, 0, none⟩)), (10, .pointer (some ⟨H.length + 1, 0, none⟩)), (11, .int .i64 0), (12, .pointer (some ⟨G1.length, 0, none⟩)), (13, .pointer (some ⟨G1.length + 1, 0, none⟩)), (14, .int .i64 0), (17, .bool true)] _ _ ?_ (by simp (maxSteps := 2000000) only [vup, cond_true, cond_false, Nat.reduceBEq])
    clear hM
    try clear M
    obtain ⟨cn, hlen⟩ := chances_chn hc
    have hlen2 : b.length = k := by omega
    have hfe := hfeas (fq b) (agB_feas hlen2 cn hag)
    have hm10 := (mult_spec cn.m).2.2
    have hm0 := Nat.pos_of_ne_zero cn.m
    have rp := partTo_rp cn ee b.length (Nat.le_refl _)
    rw [inEv_bit, hlen2] at rp
    refine Ze fun N23 hN23 => ?_
    simp (maxSteps := 2000000) only [↓Za, ↓Zb, ↓Zc, vup, List.map_cons, List.map_nil, cond_true, cond_false, aop, Zg, ev, sput, Zf, Nat.reduceBEq, Yt, List.nil_append, List.append_nil]
    refine (mult_call hwF hlb hxb).mono ?_
    rintro _ F ⟨rfl, rfl⟩
    refine hN23 [(0, Zd (k : Nat)), (1, v), (2, Zd (ee : Nat)), (3, w), (8, .bool false), (9, .pointer (some ⟨H.length, 0, none⟩)), (10, .pointer (some ⟨H.length + 1, 0, none⟩)), (11, .int .i64 0), (12, .pointer (some ⟨G1.length, 0, none⟩)), (13, .pointer (some ⟨G1.length + 1, 0, none⟩)), (14, .int .i64 0), (17, .bool true), (18, Zd (Wb b : Nat)), (19, .int .i64 0)] _ _ ?_ (by simp (maxSteps := 2000000) only [vup, cond_true, cond_false, Nat.reduceBEq])
    clear hN23
    try clear N23
    refine Zn fun M hM => ?_
    have mz : ((Wb b : Nat) : Int) ≠ 0 := by omega
    have mz2 : (((Wb b : Nat) : Int) == 0) = false := by simpa using cn.m
    refine Ze fun N24 hN24 => ?_
    simp (maxSteps := 2000000) only [↓Za, ↓Zb, ↓Zc, ↓vdn, vup, List.map_cons, List.map_nil, cond_true, cond_false, aop, Zg, ev, sput, Zf, Yi, Yo, Zl, Nat.reduceBEq, tyf, hwF.len, hlen2, mz2, ne0]
    refine hN24 [(0, Zd (k : Nat)), (1, v), (2, Zd (ee : Nat)), (3, w), (8, .bool false), (9, .pointer (some ⟨H.length, 0, none⟩)), (10, .pointer (some ⟨H.length + 1, 0, none⟩)), (11, .int .i64 0), (12, .pointer (some ⟨G1.length, 0, none⟩)), (13, .pointer (some ⟨G1.length + 1, 0, none⟩)), (14, .int .i64 0), (17, .bool true), (18, Zd (Wb b : Nat)), (19, .int .i64 0), (192, .bool false)] _ _ ?_ (by simp (maxSteps := 2000000) only [vup, cond_true, cond_false, Nat.reduceBEq])
    clear hN24
    try clear N24
    refine Xi rfl ?_
    refine Zi ?_
    simp (maxSteps := 2000000) only [↓Zw, Zg]
    refine hM [(0, Zd (k : Nat)), (1, v), (2, Zd (ee : Nat)), (3, w), (8, .bool false), (9, .pointer (some ⟨H.length, 0, none⟩)), (10, .pointer (some ⟨H.length + 1, 0, none⟩)), (11, .int .i64 0), (12, .pointer (some ⟨G1.length, 0, none⟩)), (13, .pointer (some ⟨G1.length + 1, 0, none⟩)), (14, .int .i64 0), (17, .bool true), (18, Zd (Wb b : Nat)), (19, .int .i64 0)] _ _ ?_ (by simp (maxSteps := 2000000) only [vup, cond_true, cond_false, Nat.reduceBEq])
    clear hM
    try clear M
    refine Zn fun Z hZ => ?_
    refine Ze fun N25 hN25 => ?_
    simp (maxSteps := 2000000) only [↓Za, ↓Zb, ↓Zc, vup, List.map_cons, List.map_nil, cond_true, cond_false, aop, Zg, ev, sput, Zf, Zl, Nat.reduceBEq, tyf, hwF.len, hlen2]
    refine hN25 [(0, Zd (k : Nat)), (1, v), (2, Zd (ee : Nat)), (3, w), (8, .bool false), (9, .pointer (some ⟨H.length, 0, none⟩)), (10, .pointer (some ⟨H.length + 1, 0, none⟩)), (11, .int .i64 0), (12, .pointer (some ⟨G1.length, 0, none⟩)), (13, .pointer (some ⟨G1.length + 1, 0, none⟩)), (14, .int .i64 0), (17, .bool true), (18, Zd (Wb b : Nat)), (19, .int .i64 0), (193, w), (194, Zd (k : Nat)), (195, .int .i64 0)] _ _ ?_ (by simp (maxSteps := 2000000) only [vup, cond_true, cond_false, Nat.reduceBEq])
    clear hN25
    try clear N25
    refine Zp ?_
    refine Ya fun Q hQ => ?_
    refine Xb (γ := Nat × Zh) (fun s => s.1 ≤ k ∧ Ext (fun _ => False) F s.2)
      (fun s => ([(0, Zd (k : Nat)), (1, v), (2, Zd (ee : Nat)), (3, w), (8, .bool false), (9, .pointer (some ⟨H.length, 0, none⟩)), (10, .pointer (some ⟨H.length + 1, 0, none⟩)), (11, .int .i64 0), (12, .pointer (some ⟨G1.length, 0, none⟩)), (13, .pointer (some ⟨G1.length + 1, 0, none⟩)), (14, .int .i64 0), (17, .bool true), (18, Zd (Wb b : Nat)), (19, Zd (Wq (Wb b) b ee s.1)), (193, w), (194, Zd (k : Nat)), (195, Zd (s.1 : Nat))], s.2)) (fun s => k - s.1) (0, F) ⟨Nat.zero_le _, Ext.refl _ _⟩ (by simp (maxSteps := 2000000) only [vup, cond_true, cond_false, Nat.reduceBEq, Int.natCast_zero, Wq]) rfl ?_
    rintro ⟨i, hp2⟩ ⟨hk2, hE2⟩
    simp only at hk2 hE2
    refine Ya fun Q2 hQ2 => ?_
    simp only [l9_1]
    clear hin
    by_cases hin : (i : Int) < (k : Nat)
    · have hk' : i < b.length := by omega
      have hwp2 := hwF.ext hE2
      obtain ⟨⟨x, y⟩, hxy⟩ : ∃ p, b.getD i (0, 0) = p := ⟨_, rfl⟩
      obtain ⟨r1, r2, r3, r4, r5, r6⟩ := cn.rp (Wn hk')
      obtain ⟨b1, b2⟩ := partTo_bound cn ee i (by omega)
      have ht := testV (y := i) (show ee < 9223372036854775808 by omega)
      have hnext : Wq (Wb b) b ee (i + 1) = Wq (Wb b) b ee i + if ee.testBit i then (Wb b : Int) / y * x else 0 := by rw [Wq, hxy]
      rw [hxy] at r1 r2 r3 r4 r5 r6
      simp only at r1 r2 r3 r4 r5 r6
      have hbm : (i : Int) * (Wb b : Int) ≤ 100 * (Wb b : Int) := Int.mul_le_mul_of_nonneg_right (by omega) (by omega)
      obtain ⟨H5, hH5⟩ : ∃ H, H = hp2 ++ [fC x y] := ⟨_, rfl⟩
      have c5 : H5[hp2.length]? = some (fC x y) := by rw [hH5]; exact Zz _ _
      have hEH5 : Ext (fun _ => False) F H5 := by rw [hH5]; exact hE2.trans (Ext.app _ _ _)
      refine Ze fun N26 hN26 => ?_
      simp (maxSteps := 2000000) only [↓Za, ↓Zb, ↓Zc, vup, cond_true, cond_false, aop, Zg, ev, sput, Zf, Yi, Yo, Nat.reduceBEq, hin]
      refine hN26 [(0, Zd (k : Nat)), (1, v), (2, Zd (ee : Nat)), (3, w), (8, .bool false), (9, .pointer (some ⟨H.length, 0, none⟩)), (10, .pointer (some ⟨H.length + 1, 0, none⟩)), (11, .int .i64 0), (12, .pointer (some ⟨G1.length, 0, none⟩)), (13, .pointer (some ⟨G1.length + 1, 0, none⟩)), (14, .int .i64 0), (17, .bool true), (18, Zd (Wb b : Nat)), (19, Zd (Wq (Wb b) b ee i)), (193, w), (194, Zd (k : Nat)), (195, Zd (i : Nat)), (196, .bool true)] _ _ ?_ (by simp (maxSteps := 2000000) only [vup, cond_true, cond_false, Nat.reduceBEq])
      clear hN26
      try clear N26
      refine Ze fun N27 hN27 => ?_
      simp (maxSteps := 2000000) only [↓Zw, ↓vdn, vup, cond_true, cond_false, Zg, ev, Nat.reduceBEq]
      refine hN27 [(0, Zd (k : Nat)), (1, v), (2, Zd (ee : Nat)), (3, w), (8, .bool false), (9, .pointer (some ⟨H.length, 0, none⟩)), (10, .pointer (some ⟨H.length + 1, 0, none⟩)), (11, .int .i64 0), (12, .pointer (some ⟨G1.length, 0, none⟩)), (13, .pointer (some ⟨G1.length + 1, 0, none⟩)), (14, .int .i64 0), (17, .bool true), (18, Zd (Wb b : Nat)), (19, Zd (Wq (Wb b) b ee i)), (193, w), (194, Zd (k : Nat)), (195, Zd (i : Nat))] _ _ ?_ (by simp (maxSteps := 2000000) only [vup, cond_true, cond_false, Nat.reduceBEq])
      clear hN27
      try clear N27
      refine Zn fun B hB => ?_
      refine Zp ?_
      refine Ze fun N28 hN28 => ?_
      simp (maxSteps := 2000000) only [↓Za, ↓Zb, ↓Zc, vup, cond_true, cond_false, aop, Zg, ev, sput, Zf, Nat.reduceBEq, tyf, hwp2.idx el_47 Vg hk', hwp2.load shp_26 hk', hxy, Xl, Yn, Xz (Zz hp2 z0) rfl, Xy]
      rw [← hH5]
      refine hN28 [(0, Zd (k : Nat)), (1, v), (2, Zd (ee : Nat)), (3, w), (8, .bool false), (9, .pointer (some ⟨H.length, 0, none⟩)), (10, .pointer (some ⟨H.length + 1, 0, none⟩)), (11, .int .i64 0), (12, .pointer (some ⟨G1.length, 0, none⟩)), (13, .pointer (some ⟨G1.length + 1, 0, none⟩)), (14, .int .i64 0), (17, .bool true), (18, Zd (Wb b : Nat)), (19, Zd (Wq (Wb b) b ee i)), (20, Zd (i : Nat)), (21, .pointer (some ⟨hp2.length, 0, none⟩)), (193, w), (194, Zd (k : Nat)), (195, Zd (i : Nat))] _ _ ?_ (by simp (maxSteps := 2000000) only [vup, cond_true, cond_false, Nat.reduceBEq])
      clear hN28
      try clear N28
      have fin : ∀ e z, z = Wq (Wb b) b ee (i + 1) → ELe e [(0, Zd (k : Nat)), (1, v), (2, Zd (ee : Nat)), (3, w), (8, .bool false), (9, .pointer (some ⟨H.length, 0, none⟩)), (10, .pointer (some ⟨H.length + 1, 0, none⟩)), (11, .int .i64 0), (12, .pointer (some ⟨G1.length, 0, none⟩)), (13, .pointer (some ⟨G1.length + 1, 0, none⟩)), (14, .int .i64 0), (17, .bool true), (18, Zd (Wb b : Nat)), (19, Zd z), (193, w), (194, Zd (k : Nat)), (195, Zd (i : Nat))] → B e H5 := by
        intro e z hz he
        subst hz
        refine hB _ _ _ ?_ he
        refine Zi ?_
        simp (maxSteps := 2000000) only [↓Za, ↓Zb, ↓Zc, vup, cond_true, cond_false, aop, ev, sput, Zf, Yi, Yo, Nat.reduceBEq, add1 (show i < 9223372036854775807 by omega)]
        exact hQ2 _ _ _ ⟨(i + 1, H5), ⟨by show i + 1 ≤ k; omega, hEH5⟩, by simp only; omega, by simp (maxSteps := 2000000) only [vup, cond_true, cond_false, Nat.reduceBEq], rfl⟩
      refine Ze fun N29 hN29 => ?_
      simp (maxSteps := 2000000) only [↓Za, ↓Zb, ↓Zc, vup, cond_true, cond_false, aop, Zg, ev, sput, Zf, Yi, Yo, Nat.reduceBEq, ht, beq1]
      refine hN29 [(0, Zd (k : Nat)), (1, v), (2, Zd (ee : Nat)), (3, w), (8, .bool false), (9, .pointer (some ⟨H.length, 0, none⟩)), (10, .pointer (some ⟨H.length + 1, 0, none⟩)), (11, .int .i64 0), (12, .pointer (some ⟨G1.length, 0, none⟩)), (13, .pointer (some ⟨G1.length + 1, 0, none⟩)), (14, .int .i64 0), (17, .bool true), (18, Zd (Wb b : Nat)), (19, Zd (Wq (Wb b) b ee i)), (20, Zd (i : Nat)), (21, .pointer (some ⟨hp2.length, 0, none⟩)), (193, w), (194, Zd (k : Nat)), (195, Zd (i : Nat)), (204, .bool (ee.testBit i))] _ _ ?_ (by simp (maxSteps := 2000000) only [vup, cond_true, cond_false, Nat.reduceBEq])
      clear hN29
      try clear N29
      refine Zi ?_
      have hy0 : ¬ y = 0 := by omega
      have q1 : quoV .i64 ((Wb b : Nat) : Int) y = (Wb b : Int) / y := quo_dvd (by omega) r6
      have m1 : mulV .i64 ((Wb b : Int) / y) x = (Wb b : Int) / y * x := mulN (by omega)
      have a1 : addV .i64 (Wq (Wb b) b ee i) ((Wb b : Int) / y * x) = Wq (Wb b) b ee i + (Wb b : Int) / y * x := addN (by omega)
      cases hbit : ee.testBit i with
      | false =>
        simp (maxSteps := 2000000) only [↓Zw, ↓vdn, vup, cond_true, cond_false, Zg, Zs, ev, Nat.reduceBEq]
        exact fin _ (Wq (Wb b) b ee i) (by rw [hnext, hbit]; simp) (by simp (maxSteps := 2000000) only [vup, cond_true, cond_false, Nat.reduceBEq])
      | true =>
        simp (maxSteps := 2000000) only [↓vdn, vup, cond_true, cond_false, ev, Nat.reduceBEq]
        refine Xj [] (by kernel_rfl) (by kernel_rfl) (by kernel_rfl) (by kernel_rfl) ?_
        simp (maxSteps := 2000000) only [↓Yh, ↓vdn, vup, cond_true, cond_false, aop, Zg, Zs, ev, sput, Zf, Yi, Yo, Nat.reduceBEq, Nat.reduceAdd, tyf, fA0, fA1, Wh c5, Xs c5, ne_eq, hy0, not_false_eq_true, q1, m1, a1]
        exact fin _ (Wq (Wb b) b ee i + (Wb b : Int) / y * x) (by rw [hnext, hbit]; simp) (by simp (maxSteps := 2000000) only [vup, cond_true, cond_false, Nat.reduceBEq])
    · obtain rfl : k = i := by omega
      refine Ze fun N30 hN30 => ?_
      simp (maxSteps := 2000000) only [↓Za, ↓Zb, ↓Zc, vup, cond_true, cond_false, aop, Zg, ev, sput, Zf, Yi, Yo, Nat.reduceBEq, hin]
      refine hN30 [(0, Zd (k : Nat)), (1, v), (2, Zd (ee : Nat)), (3, w), (8, .bool false), (9, .pointer (some ⟨H.length, 0, none⟩)), (10, .pointer (some ⟨H.length + 1, 0, none⟩)), (11, .int .i64 0), (12, .pointer (some ⟨G1.length, 0, none⟩)), (13, .pointer (some ⟨G1.length + 1, 0, none⟩)), (14, .int .i64 0), (17, .bool true), (18, Zd (Wb b : Nat)), (19, Zd (Wq (Wb b) b ee k)), (193, w), (194, Zd (k : Nat)), (195, Zd (k : Nat)), (196, .bool false)] _ _ ?_ (by simp (maxSteps := 2000000) only [vup, cond_true, cond_false, Nat.reduceBEq])
      clear hN30
      try clear N30
      refine Ze fun N31 hN31 => ?_
      simp (maxSteps := 2000000) only [↓Xh, ↓vdn, vup, cond_true, cond_false, Zg, ev, Nat.reduceBEq]
      refine hQ2 _ _ _ (hQ _ _ _ ?_)
      simp (maxSteps := 2000000) only [Zg, Zs, Zv, if_true]
      refine hZ [(0, Zd (k : Nat)), (1, v), (2, Zd (ee : Nat)), (3, w), (8, .bool false), (9, .pointer (some ⟨H.length, 0, none⟩)), (10, .pointer (some ⟨H.length + 1, 0, none⟩)), (11, .int .i64 0), (12, .pointer (some ⟨G1.length, 0, none⟩)), (13, .pointer (some ⟨G1.length + 1, 0, none⟩)), (14, .int .i64 0), (17, .bool true), (18, Zd (Wb b : Nat)), (19, Zd (Wq (Wb b) b ee k))] _ _ ?_ (by simp (maxSteps := 2000000) only [vup, cond_true, cond_false, Nat.reduceBEq])
      clear hZ
      try clear Z
      have j9 := (hE2.2 _ (Yl h9) id).trans h9
      have j10 := (hE2.2 _ (Yl h10) id).trans h10
      obtain ⟨b1, b2⟩ := partTo_bound cn ee k (by omega)
      have b3 : (k : Int) * (Wb b : Int) ≤ 5 * (Wb b : Int) := Int.mul_le_mul_of_nonneg_right (by omega) (by omega)
      obtain ⟨S, hS⟩ : ∃ S, Wq (Wb b) b ee k = S := ⟨_, rfl⟩
      rw [hS] at rp b1 b2 ⊢
      have c1 := (rp_le rp).1.1 hfe.1
      have c2 := (rp_le rp).2.1 hfe.2
      have p1 := big_mul s1.num (show 0 ≤ ((Wb b : Nat) : Int) ∧ ((Wb b : Nat) : Int) ≤ ((50000000000 : Nat) : Int) by omega)
      have p2 := big_mul s2.num (show 0 ≤ ((Wb b : Nat) : Int) ∧ ((Wb b : Nat) : Int) ≤ ((50000000000 : Nat) : Int) by omega)
      have p3 := big_mul (dn s1) (show 0 ≤ S ∧ S ≤ ((50000000000 : Nat) : Int) by omega)
      have p4 := big_mul (dn s2) (show 0 ≤ S ∧ S ≤ ((50000000000 : Nat) : Int) by omega)
      rw [Int.mul_comm] at p3 p4
      have m1 : mulV .i64 lo.num ((Wb b : Nat) : Int) = lo.num * (Wb b : Nat) := mulN (by omega)
      have m2 : mulV .i64 S (lo.den : Int) = S * lo.den := mulN (by omega)
      have m3 : mulV .i64 S (hi.den : Int) = S * hi.den := mulN (by omega)
      have m4 : mulV .i64 hi.num ((Wb b : Nat) : Int) = hi.num * (Wb b : Nat) := mulN (by omega)
      refine Ze fun N32 hN32 => ?_
      simp only [q9_25]
      refine Xt 10 fun N1 hN1 => ?_
      simp (maxSteps := 2000000) only [↓Za, ↓Zb, ↓Zc, vup, cond_true, cond_false, aop, ev, sput, Zf, Yi, Yo, Nat.reduceBEq, tyf, List.take_succ_cons, List.take_zero, fA0, fA1, Wh j9, Xs j9, m1, m2, c1]
      refine hN1 _ _ ?_
      clear hN1 N1
      simp only [List.drop_succ_cons, List.drop_zero]
      refine Xt 11 fun N1 hN1 => ?_
      simp (maxSteps := 2000000) only [↓Za, ↓Zb, ↓Zc, ↓vdn, vup, cond_true, cond_false, aop, ev, sput, Zf, Yi, Yo, Nat.reduceBEq, tyf, List.take_succ_cons, List.take_zero, fA0, fA1, Wh j10, Xs j10, m3, m4, c2]
      refine hN1 _ _ ?_
      clear hN1 N1
      simp only [List.drop_succ_cons, List.drop_zero]
      simp (maxSteps := 2000000) only [↓Za, ↓Zb, ↓Zc, ↓vdn, vup, List.map_nil, cond_true, cond_false, aop, Zg, ev, sput, Zf, Nat.reduceBEq, Yt, List.append_nil]
      refine ((aw1 hp2)).mono ?_
      rintro _ hp2 ⟨rfl, hE9⟩
      refine hN32 [(0, Zd (k : Nat)), (1, v), (2, Zd (ee : Nat)), (3, w), (8, .bool true), (9, .pointer (some ⟨H.length, 0, none⟩)), (10, .pointer (some ⟨H.length + 1, 0, none⟩)), (11, .int .i64 0), (12, .pointer (some ⟨G1.length, 0, none⟩)), (13, .pointer (some ⟨G1.length + 1, 0, none⟩)), (14, .int .i64 0), (17, .bool true), (18, Zd (Wb b : Nat)), (19, Zd S)] _ _ ?_ (by simp (maxSteps := 2000000) only [vup, cond_true, cond_false, Nat.reduceBEq])
      clear hN32
      try clear N32
      refine Zi ?_
      simp (maxSteps := 2000000) only [↓Zy, vup, cond_true, cond_false, Nat.reduceBEq, Zv, Xw, tup]
end Go.Proofs.Try.Am

/-
  bets: law Prices.
-/
import Derived.Test.YtcmindinomacbaaPk10
set_option linter.all false
namespace Go.Proofs.Try.Am
open Go.Am Bq
set_option maxRecDepth 100000
set_option maxHeartbeats 4000000

theorem small_mul' {a b : Int} (ha : 0 ≤ a ∧ a ≤ 720) (hb : 0 ≤ b ∧ b ≤ 720) : (a * b).natAbs ≤ 518400 := by
  have h1 := Int.mul_le_mul ha.2 hb.2 hb.1 (by decide)
  have h2 := Int.mul_nonneg ha.1 hb.1
  omega
theorem rp_le' {q1 q2 : Rat} {N : Nat} {s : Int} (h : Rp N s q2) : (q1 ≤ q2 ↔ q1.num * (N : Int) ≤ s * (q1.den : Int)) ∧ (q2 ≤ q1 ↔ s * (q1.den : Int) ≤ q1.num * (N : Int)) := by
  have r1 := (Rp.own q1).up N h.1
  have r2 := h.up q1.den q1.den_pos
  rw [Nat.mul_comm N] at r2
  rw [← Rat.not_lt, ← Rat.not_lt, r2.lt r1, r1.lt r2]
  omega
theorem prF_iff {lo hi : Rat} {c : Nat} : prF lo hi c = true ↔ lo ≤ Rat.divInt (c : Int) 12 ∧ Rat.divInt (c : Int) 12 ≤ hi := by
  rw [prF]; simp [Rat.not_lt]
theorem prF_num {lo hi : Rat} (c : Nat) : prF lo hi c = (decide (12 * lo.num ≤ (c : Int) * (lo.den : Int)) && decide ((c : Int) * (hi.den : Int) ≤ 12 * hi.num)) := by
  have r := Rp.of_frac (N := 12) (by decide) (c : Int)
  have h1 := (rp_le' (q1 := lo) r).1
  have h2 := (rp_le' (q1 := hi) r).2
  rw [Int.mul_comm] at h1
  rw [Int.mul_comm hi.num] at h2
  rw [Bool.eq_iff_iff, prF_iff, Bool.and_eq_true, decide_eq_true_eq, decide_eq_true_eq]
  exact ⟨fun h => ⟨h1.1 h.1, h2.1 h.2⟩, fun h => ⟨h1.2 h.1, h2.2 h.2⟩⟩
theorem castI_mem {L : List Nat} {c : Nat} : ((c : Nat) : Int) ∈ Ww L ↔ c ∈ L := by
  rw [Ww, List.mem_map]
  constructor
  · rintro ⟨x, h1, h2⟩
    have h3 : (x : Int) = (c : Int) := h2
    have : x = c := by omega
    exact this ▸ h1
  · exact fun h => ⟨c, h, rfl⟩
theorem pr_contains {lo hi : Rat} {c : Nat} (hc : c < 13) : (Ww (prTo lo hi 13)).contains ((c : Nat) : Int) = prF lo hi c := by
  rw [Bool.eq_iff_iff, List.contains_iff_mem, castI_mem, prTo, List.mem_filter, List.mem_range]
  exact ⟨fun h => h.2, fun h => ⟨hc, h⟩⟩
theorem pr_sorted (lo hi : Rat) : srt (Ww (prTo lo hi 13)) = true := by
  have hp : (Ww (prTo lo hi 13)).Pairwise (· < ·) := by
    rw [Ww, List.pairwise_map]
    refine ((List.pairwise_lt_range (n := 13)).sublist (List.filter_sublist (p := prF lo hi))).imp ?_
    intro a b h
    exact_mod_cast h
  refine srt_iff.2 fun j hj => ?_
  have := List.pairwise_iff_getElem.1 hp j (j + 1) (by omega) hj (by omega)
  rw [List.getD, List.getD, List.getElem?_eq_getElem hj, List.getElem?_eq_getElem (by omega)]
  exact Int.le_of_lt this
theorem price_take9 {n e : Int} {l : List (Int × Int)} {h : Zh} {x : Value} {f : Int} (hp : Vl n e (l.take 9) h x f) : Vl n e l h x f := by
  rw [Vl, valid_take] at hp
  rw [Vl]
  by_cases hv : Yu n l = true
  · have h6 : l.length ≤ 6 := by
      simp only [Yu, Bool.and_eq_true, decide_eq_true_eq] at hv; omega
    rw [List.take_of_length_le (by omega)] at hp
    exact hp
  · rw [if_neg fun h => hv h.1] at hp ⊢
    exact hp

/-- A mixture of two beliefs. -/
theorem feas_mix {n : Nat} {l : List (Int × Int)} {p q : Nat → Rat} {t : Rat} (hp : Feas n l p) (hq : Feas n l q) (h0 : 0 ≤ t) (h1 : t ≤ 1) : Feas n l (fun w => t * p w + (1 - t) * q w) := by
  have hev : ∀ e, evq n (fun w => t * p w + (1 - t) * q w) e = t * evq n p e + (1 - t) * evq n q e := fun e => by
    rw [evq, Zj (g := fun w => t * (bitQ e w * p w) + (1 - t) * (bitQ e w * q w)) fun w hw => by grind, Wc, Xb, Xb, evq, evq]
  have h2 : 0 ≤ 1 - t := by grind
  refine ⟨fun w hw => ?_, ?_, fun i hi => ?_⟩
  · have a := Rat.mul_nonneg h0 (hp.nn w hw)
    have b := Rat.mul_nonneg h2 (hq.nn w hw)
    exact Rat.add_nonneg a b
  · rw [Wc, Xb, Xb, hp.one, hq.one]; grind
  · rw [hev, hp.bet i hi, hq.bet i hi]; grind
theorem evq_mix {n : Nat} {p q : Nat → Rat} {t : Rat} (e : Nat) : evq n (fun w => t * p w + (1 - t) * q w) e = t * evq n p e + (1 - t) * evq n q e := by
  rw [evq, Zj (g := fun w => t * (bitQ e w * p w) + (1 - t) * (bitQ e w * q w)) fun w hw => by grind, Wc, Xb, Xb, evq, evq]
/-- One bet more, on an event: sound just at a price between the bounds. -/
theorem more_sound {n e : Nat} {l : List (Int × Int)} {c : Int} (hne : Yb n l ≠ []) : Yb n (l ++ [((e : Int), c)]) ≠ [] ↔ loQ n e l ≤ Rat.divInt c 12 ∧ Rat.divInt c 12 ≤ hiQ n e l := by
  constructor
  · intro h
    obtain ⟨b, hb⟩ := List.exists_mem_of_ne_nil _ h
    obtain ⟨h1, h2⟩ := feas_last.1 (corner_feas' hb)
    rw [Int.toNat_natCast] at h2
    rw [← h2]
    exact lo_hi_feas h1
  · rintro ⟨h1, h2⟩
    obtain ⟨⟨a, ha, g1⟩, b, hb, g2⟩ := lo_hi_taken (e := e) hne
    have fa := corner_feas' ha
    have fb := corner_feas' hb
    rw [cvq] at g1 g2
    rw [g1] at h1
    rw [g2] at h2
    obtain ⟨z, hz⟩ : ∃ z, Rat.divInt c 12 = z := ⟨_, rfl⟩
    rw [hz] at h1 h2
    obtain ⟨A, hA⟩ : ∃ A, evq n (fun w => a.getD w 0) e = A := ⟨_, rfl⟩
    obtain ⟨B, hB⟩ : ∃ B, evq n (fun w => b.getD w 0) e = B := ⟨_, rfl⟩
    rw [hA] at h1
    rw [hB] at h2
    by_cases hab : A = B
    · have : z = A := Rat.le_antisymm (hab ▸ h2) h1
      refine sound_iff.2 ⟨_, feas_last.2 ⟨fa, ?_⟩⟩
      rw [Int.toNat_natCast, hA, hz, this]
    · have hlt : 0 < B - A := by
        have := Rat.le_trans h1 h2
        grind
      have h0 : 0 ≤ (B - z) / (B - A) := by
        rw [Rat.div_def]
        exact Rat.mul_nonneg (by grind) (Rat.le_of_lt (Rat.inv_pos.2 hlt))
      have h3 : (B - z) / (B - A) * (B - A) = B - z := Rat.div_mul_cancel (by grind)
      have h4 : (B - z) / (B - A) ≤ 1 := by
        refine Rat.le_of_mul_le_mul_right (c := B - A) ?_ hlt
        rw [h3]; grind
      refine sound_iff.2 ⟨_, feas_last.2 ⟨feas_mix fa fb h0 h4, ?_⟩⟩
      rw [Int.toNat_natCast, evq_mix, hA, hB, hz]
      generalize (B - z) / (B - A) = t at *
      grind
theorem intExt' {h h' : Zh} {v : Value} {xs : List Int} (hv : IntSl h v xs) (hE : Ext (fun _ => False) h h') : IntSl h' v xs := by
  rcases hv with ⟨rfl, rfl⟩ | ⟨b, o, sp, cap, c, e, ro, rfl, h1, h2, h3⟩
  · exact .inl ⟨rfl, rfl⟩
  · exact .inr ⟨b, o, sp, cap, c, e, ro, rfl, h1, Vh hE h2, h3⟩
theorem remU13 (i : Int) : ∃ k : Nat, k < 13 ∧ IntKind.i64.wrap ((IntKind.u64.wrap i).tmod 13) = (k : Int) := by
  have hi : 0 ≤ IntKind.u64.wrap i := by simp [IntKind.wrap, IntKind.signed, IntKind.bits]; omega
  obtain ⟨x, hx⟩ : ∃ x : Nat, IntKind.u64.wrap i = (x : Int) := ⟨(IntKind.u64.wrap i).toNat, by omega⟩
  rw [hx, Int.tmod_eq_emod_of_nonneg (by omega)]
  have := Nat.mod_lt x (show 13 > 0 by omega)
  refine ⟨x % 13, this, ?_⟩
  exact wrap_id (by omega) (by omega)

theorem s10_callW [Tabs Try.prog] {args : List Value} {h : Zh} {Q : Value → Zh → Prop} (hsz : args.length ≤ 147) (hk : AWS Try.prog 147 s10 (Zu Try.prog [.tmp 8] Q) (Zp 0 args) h) : ACall Try.prog 10 args h Q :=
  Yv Try.func10 rfl (enters_of Try.func10 (by kernel_rfl) rfl) rfl rfl (by decide) s10_strip s10_ok hsz hk
theorem law_prices [Tabs prog] {h : Zh} {v : Value} {l : List (Int × Int)} (n : Int) (hv : PairSl h v l) (hl : l.length < 9223372036854775808) (hxl : InR l) (hl16 : l.length * 16 ≤ 140737488351232) (e ct : Int) :
    ACall prog 10 [Zd n, v, Zd e, Zd ct] h fun r _ => r = .bool true := by
  refine s10_callW (by simp) ?_
  simp only [s10]
  refine Ze fun N1 hN1 => ?_
  simp (maxSteps := 2000000) only [↓Za, ↓Zb, ↓Zc, vup, cond_false, aop, Zg, Zp, ev, sput, Zf, Nat.reduceBEq, Nat.reduceAdd]
  refine hN1 [(0, Zd n), (1, v), (2, Zd e), (3, Zd ct), (8, .bool false)] _ _ ?_ (by simp (maxSteps := 2000000) only [vup, cond_true, cond_false, Nat.reduceBEq])
  clear hN1
  try clear N1
  refine Ze fun N2 hN2 => ?_
  simp (maxSteps := 2000000) only [↓Za, ↓Zb, ↓Zc, vup, List.map_cons, List.map_nil, cond_true, cond_false, aop, Zg, ev, sput, Zf, Nat.reduceBEq, Yr, List.nil_append, List.append_nil]
  refine (of_copy hv hl).mono ?_
  rintro u0 h0 ⟨hu0, hE0⟩
  refine (progPrice_call (n := n) (e := e) hu0 (by rw [List.length_take]; omega)).mono ?_
  rintro _ h1 ⟨hE1, p, f0, rfl, hpr⟩
  replace hpr := price_take9 hpr
  simp (maxSteps := 2000000) only [extr_20, extr_21]
  refine hN2 [(0, Zd n), (1, v), (2, Zd e), (3, Zd ct), (8, .bool false), (9, p), (10, .int .i64 f0)] _ _ ?_ (by simp (maxSteps := 2000000) only [vup, cond_true, cond_false, Nat.reduceBEq])
  clear hN2
  try clear N2
  have hE01 := hE0.trans hE1
  have hv1 := hv.ext hE01
  refine Ze fun N3 hN3 => ?_
  simp (maxSteps := 2000000) only [↓Za, ↓Zb, ↓Zc, vup, List.map_cons, List.map_nil, cond_true, cond_false, aop, Zg, ev, sput, Zf, Nat.reduceBEq, Yr, List.nil_append, List.append_nil]
  refine (of_copy hv1 hl).mono ?_
  rintro u1 h2 ⟨hu1, hE2⟩
  refine (progBounds_call (n := n) (e := e) hu1 (by rw [List.length_take]; omega)).mono ?_
  rintro _ H ⟨hE3, hr⟩
  rw [hr, bndV_take9]
  clear hr
  have hE1H := hE2.trans hE3
  have st7 : ∀ {H : Zh} {a b : Int} {K : Zh → Prop}, Xh prog (H ++ [z0] ++ [z0]) 26 (.pointer (some ⟨H.length, 0, none⟩)) (.agg #[Zd a, Zd b]) K = K (H ++ [fC a b] ++ [z0]) := fun {H a b K} => by
    rw [Xw (b2_0 ..) rfl, List.set_append_left _ _ (by simp), Xy]
  have st8 : ∀ {H : Zh} {a b c d : Int} {K : Zh → Prop}, Xh prog (H ++ [fC a b] ++ [z0]) 26 (.pointer (some ⟨H.length + 1, 0, none⟩)) (.agg #[Zd c, Zd d]) K = K (H ++ [fC a b] ++ [fC c d]) := fun {H a b c d K} => by
    have := Xy (H ++ [fC a b]) z0 (fC c d)
    simp only [List.length_append, List.length_singleton] at this
    rw [Xw (b2_1 ..) rfl, this]
  have inj3 : ∀ {a b c d f a' b' c' d' f' : Int}, Value.tuple #[frV a b, frV c d, .int .i64 f] = .tuple #[frV a' b', frV c' d', .int .i64 f'] → a = a' ∧ b = b' ∧ c = c' ∧ d = d' ∧ f = f' := fun {a b c d f a' b' c' d' f'} h => by
    simp only [frV, Value.tuple.injEq, Array.mk.injEq, List.cons.injEq, Value.agg.injEq, Value.int.injEq, and_true, true_and] at h
    obtain ⟨⟨h1, h2⟩, ⟨h3, h4⟩, h5⟩ := h
    exact ⟨h1, h2, h3, h4, h5⟩
  obtain ⟨a, a2, c, c2, f, hb⟩ : ∃ a b c d f : Int, bndV n e l = .tuple #[frV a b, frV c d, .int .i64 f] := by
    rcases bnd_cases n e l with ⟨_, h⟩ | ⟨_, _, _, h⟩ | ⟨_, _, _, h⟩ <;> exact ⟨_, _, _, _, _, h⟩
  rw [hb]
  simp (maxSteps := 2000000) only [extr_30, extr_31, extr_32, tyf, frV, Xn, Yx, List.length_append, List.length_singleton]
  rw [st7, st8]
  obtain ⟨G, hG⟩ : ∃ G, G = H ++ [fC a a2] ++ [fC c c2] := ⟨_, rfl⟩
  have hEG : Ext (fun _ => False) H G := by rw [hG]; exact e2 ..
  have b9 : G[H.length]? = some (fC a a2) := by rw [hG]; exact b2_0 ..
  have b10 : G[H.length + 1]? = some (fC c c2) := by rw [hG]; exact b2_1 ..
  rw [← hG]
  refine hN3 [(0, Zd n), (1, v), (2, Zd e), (3, Zd ct), (8, .bool false), (9, p), (10, .int .i64 f0), (11, .pointer (some ⟨H.length, 0, none⟩)), (12, .pointer (some ⟨H.length + 1, 0, none⟩)), (13, .int .i64 f)] _ _ ?_ (by simp (maxSteps := 2000000) only [vup, cond_true, cond_false, Nat.reduceBEq])
  clear hN3
  try clear N3
  clear st7 st8
  have hE1G := hE1H.trans hEG
  have hvG := hv1.ext hE1G
  have aw1 : ∀ z : Zh, Xm prog 21 [] z (.bool true) := fun z => awake_call
  have n00 : ((0 : Int) != 0) = false := rfl
  have n20 : ((2 : Int) != 0) = true := rfl
  have n50 : ((5 : Int) != 0) = true := rfl
  have r22 : ((2 : Int) == 2) = true := rfl
  have r52 : ((5 : Int) == 2) = false := rfl
  have r55 : ((5 : Int) == 5) = true := rfl
  have r00 : ((0 : Int) == 0) = true := rfl
  have r02 : ((0 : Int) == 2) = false := rfl
  have r50 : ((5 : Int) == 0) = false := rfl
  rcases bnd_cases n e l with ⟨hbad, h⟩ | ⟨hval, hev, hne, h⟩ | ⟨hval, hev, hne, h4⟩
  · obtain ⟨-, -, -, -, rfl⟩ := inj3 (hb.symm.trans h)
    rw [Vl, if_neg hbad] at hpr
    obtain ⟨rfl, rfl⟩ := hpr
    refine Zl fun M hM => ?_
    refine Ze fun N4 hN4 => ?_
    simp (maxSteps := 2000000) only [↓Za, ↓Zb, ↓Zc, ↓vdn, vup, cond_true, cond_false, aop, Zg, ev, sput, Zf, Yk, Yl, Nat.reduceBEq, n20]
    refine hN4 [(0, Zd n), (1, v), (2, Zd e), (3, Zd ct), (8, .bool false), (9, .slice none 0 0), (10, .int .i64 2), (11, .pointer (some ⟨H.length, 0, none⟩)), (12, .pointer (some ⟨H.length + 1, 0, none⟩)), (13, .int .i64 2), (49, .bool true)] _ _ ?_ (by simp (maxSteps := 2000000) only [vup, cond_true, cond_false, Nat.reduceBEq])
    clear hN4
    try clear N4
    refine Xr rfl ?_
    refine Ze fun N5 hN5 => ?_
    simp only [q10_4]
    refine Xs 4 fun N1 hN1 => ?_
    simp (maxSteps := 2000000) only [↓Za, ↓Zb, ↓Zc, vup, cond_true, cond_false, aop, ev, sput, Zf, Yk, Yl, Nat.reduceBEq, List.take_succ_cons, List.take_zero, r22]
    refine hN1 _ _ ?_
    clear hN1 N1
    simp only [List.drop_succ_cons, List.drop_zero]
    refine Xs 8 fun N1 hN1 => ?_
    simp (maxSteps := 2000000) only [↓Za, ↓Zb, ↓Zc, ↓vdn, vup, cond_true, cond_false, aop, ev, sput, Zf, Yk, Yl, Nat.reduceBEq, List.take_succ_cons, List.take_zero, r22]
    refine hN1 _ _ ?_
    clear hN1 N1
    simp only [List.drop_succ_cons, List.drop_zero]
    simp (maxSteps := 2000000) only [↓Za, ↓Zb, ↓Zc, ↓vdn, vup, List.map_nil, cond_true, cond_false, aop, Zg, ev, sput, Zf, Nat.reduceBEq, Yr, List.append_nil]
    refine ((aw1 G)).mono ?_
    rintro _ G ⟨rfl, hE9⟩
    refine hN5 [(0, Zd n), (1, v), (2, Zd e), (3, Zd ct), (8, .bool true), (9, .slice none 0 0), (10, .int .i64 2), (11, .pointer (some ⟨H.length, 0, none⟩)), (12, .pointer (some ⟨H.length + 1, 0, none⟩)), (13, .int .i64 2), (49, .bool true)] _ _ ?_ (by simp (maxSteps := 2000000) only [vup, cond_true, cond_false, Nat.reduceBEq])
    clear hN5
    try clear N5
    refine Zi ?_
    simp (maxSteps := 2000000) only [↓Zz, vup, cond_true, cond_false, Zg, Nat.reduceBEq, Zu, Xx, tup]
  · obtain ⟨-, -, -, -, rfl⟩ := inj3 (hb.symm.trans h)
    rw [Vl, if_pos ⟨hval, hev⟩, if_pos hne] at hpr
    obtain ⟨rfl, rfl⟩ := hpr
    refine Zl fun M hM => ?_
    refine Ze fun N6 hN6 => ?_
    simp (maxSteps := 2000000) only [↓Za, ↓Zb, ↓Zc, ↓vdn, vup, cond_true, cond_false, aop, Zg, ev, sput, Zf, Yk, Yl, Nat.reduceBEq, n50]
    refine hN6 [(0, Zd n), (1, v), (2, Zd e), (3, Zd ct), (8, .bool false), (9, .slice none 0 0), (10, .int .i64 5), (11, .pointer (some ⟨H.length, 0, none⟩)), (12, .pointer (some ⟨H.length + 1, 0, none⟩)), (13, .int .i64 5), (49, .bool true)] _ _ ?_ (by simp (maxSteps := 2000000) only [vup, cond_true, cond_false, Nat.reduceBEq])
    clear hN6
    try clear N6
    refine Xr rfl ?_
    refine Ze fun N7 hN7 => ?_
    simp only [q10_4]
    refine Xs 4 fun N1 hN1 => ?_
    simp (maxSteps := 2000000) only [↓Za, ↓Zb, ↓Zc, vup, cond_true, cond_false, aop, ev, sput, Zf, Yk, Yl, Nat.reduceBEq, List.take_succ_cons, List.take_zero, r55]
    refine hN1 _ _ ?_
    clear hN1 N1
    simp only [List.drop_succ_cons, List.drop_zero]
    refine Xs 8 fun N1 hN1 => ?_
    simp (maxSteps := 2000000) only [↓Za, ↓Zb, ↓Zc, ↓vdn, vup, cond_true, cond_false, aop, ev, sput, Zf, Yk, Yl, Nat.reduceBEq, List.take_succ_cons, List.take_zero, r52, r55]
    refine hN1 _ _ ?_
    clear hN1 N1
    simp only [List.drop_succ_cons, List.drop_zero]
    simp (maxSteps := 2000000) only [↓Za, ↓Zb, ↓Zc, ↓vdn, vup, List.map_nil, cond_true, cond_false, aop, Zg, ev, sput, Zf, Nat.reduceBEq, Yr, List.append_nil]
    refine ((aw1 G)).mono ?_
    rintro _ G ⟨rfl, hE9⟩
    refine hN7 [(0, Zd n), (1, v), (2, Zd e), (3, Zd ct), (8, .bool true), (9, .slice none 0 0), (10, .int .i64 5), (11, .pointer (some ⟨H.length, 0, none⟩)), (12, .pointer (some ⟨H.length + 1, 0, none⟩)), (13, .int .i64 5), (49, .bool true)] _ _ ?_ (by simp (maxSteps := 2000000) only [vup, cond_true, cond_false, Nat.reduceBEq])
    clear hN7
    try clear N7
    refine Zi ?_
    simp (maxSteps := 2000000) only [↓Zz, vup, cond_true, cond_false, Zg, Nat.reduceBEq, Zu, Xx, tup]
  obtain ⟨k, hk⟩ : ∃ k : Nat, n = k := ⟨n.toNat, by simp only [Yu, Bool.and_eq_true, decide_eq_true_eq] at hval; omega⟩
  obtain ⟨ee, hee⟩ : ∃ ee : Nat, e = ee := ⟨e.toNat, by simp only [evB, Bool.and_eq_true, decide_eq_true_eq] at hev; omega⟩
  subst hk
  subst hee
  obtain ⟨hn2, hn5, hl1, hl6, hok⟩ := Wr hval
  have hev2 : (decide (0 ≤ ((ee : Nat) : Int)) && decide (((ee : Nat) : Int) < 2 ^ k)) = true := by rw [evB, Int.toNat_natCast] at hev; exact hev
  rw [Vl, if_pos ⟨hval, hev⟩, if_neg hne] at hpr
  obtain ⟨hp, rfl⟩ := hpr
  rw [Int.toNat_natCast] at hne hp h4
  rw [Int.toNat_natCast] at hp h4
  have rbc := rbets_call (h := G) (n := ((k : Nat) : Int)) hvG hl
  rw [hval] at rbc
  have evc := event_call (h := G) (n := k) (e := ((ee : Nat) : Int)) (by omega)
  rw [hev2] at evc
  obtain ⟨s1, s2⟩ := bnd_sm (e := ee) hval hne
  have hmore := fun (cc : Int) => more_sound (e := ee) (c := cc) hne
  obtain ⟨lo, hlo⟩ : ∃ x, loQ k ee l = x := ⟨_, rfl⟩
  obtain ⟨hi, hhi⟩ : ∃ x, hiQ k ee l = x := ⟨_, rfl⟩
  simp only [hlo, hhi] at s1 s2 h4 hmore hp
  rw [h4] at hb
  obtain ⟨rfl, rfl, rfl, rfl, rfl⟩ := inj3 hb
  have hpG := intExt' hp hE1G
  have hplen : (Ww (prTo lo hi 13)).length ≤ 13 := by rw [castI_len]; exact prTo_le ..
  refine Zl fun M hM => ?_
  refine Ze fun N8 hN8 => ?_
  simp only [q10_3]
  refine Xs 8 fun N1 hN1 => ?_
  simp (maxSteps := 2000000) only [↓Za, ↓Zb, ↓Zc, ↓vdn, vup, List.map_cons, List.map_nil, cond_true, cond_false, aop, ev, sput, Zf, Yk, Yl, unK, Nat.reduceBEq, Yr, List.nil_append, List.append_nil, List.take_succ_cons, List.take_zero, n00]
  refine (rbc).mono ?_
  rintro _ G ⟨rfl, rfl⟩
  simp (maxSteps := 2000000) only [vup]
  refine hN1 _ _ ?_
  clear hN1 N1
  simp only [List.drop_succ_cons, List.drop_zero]
  simp (maxSteps := 2000000) only [↓Za, ↓Zb, ↓Zc, ↓vdn, vup, List.map_cons, List.map_nil, cond_true, cond_false, aop, Zg, ev, sput, Zf, unK, Nat.reduceBEq, Yr, List.nil_append, List.append_nil]
  refine (evc).mono ?_
  rintro _ G ⟨rfl, rfl⟩
  simp (maxSteps := 2000000) only [vup]
  refine hN8 [(0, Zd (k : Nat)), (1, v), (2, Zd (ee : Nat)), (3, Zd ct), (8, .bool false), (9, p), (10, .int .i64 0), (11, .pointer (some ⟨H.length, 0, none⟩)), (12, .pointer (some ⟨H.length + 1, 0, none⟩)), (13, .int .i64 0), (49, .bool false)] _ _ ?_ (by simp (maxSteps := 2000000) only [vup, cond_true, cond_false, Nat.reduceBEq])
  clear hN8
  try clear N8
  refine Yz rfl ?_
  refine Zi ?_
  simp (maxSteps := 2000000) only [↓Zs, Zg]
  refine hM [(0, Zd (k : Nat)), (1, v), (2, Zd (ee : Nat)), (3, Zd ct), (8, .bool false), (9, p), (10, .int .i64 0), (11, .pointer (some ⟨H.length, 0, none⟩)), (12, .pointer (some ⟨H.length + 1, 0, none⟩)), (13, .int .i64 0)] _ _ ?_ (by simp (maxSteps := 2000000) only [vup, cond_true, cond_false, Nat.reduceBEq])
  clear hM
  try clear M
  have u1 := fun z => unit_call (h := z) s1
  have u2 := fun z => unit_call (h := z) s2
  refine Zl fun M hM => ?_
  refine Ze fun N9 hN9 => ?_
  simp only [q10_5]
  refine Xs 7 fun N1 hN1 => ?_
  simp (maxSteps := 2000000) only [↓Za, ↓Zb, ↓Zc, ↓vdn, vup, List.map_cons, List.map_nil, cond_true, cond_false, aop, ev, sput, Zf, Yk, Yl, unK, Nat.reduceBEq, Yr, List.nil_append, List.append_nil, List.take_succ_cons, List.take_zero, n00, Xz b9]
  refine ((u1 G)).mono ?_
  rintro _ G ⟨rfl, rfl⟩
  simp (maxSteps := 2000000) only [vup]
  refine hN1 _ _ ?_
  clear hN1 N1
  simp only [List.drop_succ_cons, List.drop_zero]
  simp (maxSteps := 2000000) only [↓Za, ↓Zb, ↓Zc, ↓vdn, vup, List.map_cons, List.map_nil, cond_true, cond_false, aop, Zg, ev, sput, Zf, unK, Nat.reduceBEq, Yr, List.nil_append, List.append_nil, Xz b10]
  refine ((u2 G)).mono ?_
  rintro _ G ⟨rfl, rfl⟩
  simp (maxSteps := 2000000) only [vup]
  refine hN9 [(0, Zd (k : Nat)), (1, v), (2, Zd (ee : Nat)), (3, Zd ct), (8, .bool false), (9, p), (10, .int .i64 0), (11, .pointer (some ⟨H.length, 0, none⟩)), (12, .pointer (some ⟨H.length + 1, 0, none⟩)), (13, .int .i64 0), (75, .bool false)] _ _ ?_ (by simp (maxSteps := 2000000) only [vup, cond_true, cond_false, Nat.reduceBEq])
  clear hN9
  try clear N9
  refine Yz rfl ?_
  refine Zi ?_
  simp (maxSteps := 2000000) only [↓Zs, Zg]
  refine hM [(0, Zd (k : Nat)), (1, v), (2, Zd (ee : Nat)), (3, Zd ct), (8, .bool false), (9, p), (10, .int .i64 0), (11, .pointer (some ⟨H.length, 0, none⟩)), (12, .pointer (some ⟨H.length + 1, 0, none⟩)), (13, .int .i64 0)] _ _ ?_ (by simp (maxSteps := 2000000) only [vup, cond_true, cond_false, Nat.reduceBEq])
  clear hM
  try clear M
  -- the prices are those between
  have dn : ∀ {q : Rat}, SmQ q → (0 ≤ (q.den : Int) ∧ (q.den : Int) ≤ 720) := fun h => ⟨by omega, by have := h.2.2; omega⟩
  refine Zl fun Z hZ => ?_
  refine Ze fun N10 hN10 => ?_
  simp (maxSteps := 2000000) only [↓Za, ↓Zb, ↓Zc, vup, cond_false, aop, Zg, ev, sput, Zf, Nat.reduceBEq]
  refine hN10 [(0, Zd (k : Nat)), (1, v), (2, Zd (ee : Nat)), (3, Zd ct), (8, .bool false), (9, p), (10, .int .i64 0), (11, .pointer (some ⟨H.length, 0, none⟩)), (12, .pointer (some ⟨H.length + 1, 0, none⟩)), (13, .int .i64 0), (76, .int .i64 0)] _ _ ?_ (by simp (maxSteps := 2000000) only [vup, cond_true, cond_false, Nat.reduceBEq])
  clear hN10
  try clear N10
  refine Zn ?_
  refine Zy fun Q hQ => ?_
  refine Xd (γ := Nat) (fun s => s ≤ 13)
    (fun s => ([(0, Zd (k : Nat)), (1, v), (2, Zd (ee : Nat)), (3, Zd ct), (8, .bool false), (9, p), (10, .int .i64 0), (11, .pointer (some ⟨H.length, 0, none⟩)), (12, .pointer (some ⟨H.length + 1, 0, none⟩)), (13, .int .i64 0), (76, Zd (s : Nat))], G)) (fun s => 13 - s) 0 (Nat.zero_le _) (by simp (maxSteps := 2000000) only [vup, cond_true, cond_false, Nat.reduceBEq, Int.natCast_zero]) rfl ?_
  rintro i hk
  refine Zy fun Q2 hQ2 => ?_
  simp only [l10_0]
  by_cases hin : (i : Int) < 13
  · have hk' : i < 13 := by omega
    refine Ze fun N11 hN11 => ?_
    simp (maxSteps := 2000000) only [↓Za, ↓Zb, ↓Zc, vup, cond_true, cond_false, aop, Zg, ev, sput, Zf, Yk, Yl, Nat.reduceBEq, hin]
    refine hN11 [(0, Zd (k : Nat)), (1, v), (2, Zd (ee : Nat)), (3, Zd ct), (8, .bool false), (9, p), (10, .int .i64 0), (11, .pointer (some ⟨H.length, 0, none⟩)), (12, .pointer (some ⟨H.length + 1, 0, none⟩)), (13, .int .i64 0), (76, Zd (i : Nat)), (77, .bool true)] _ _ ?_ (by simp (maxSteps := 2000000) only [vup, cond_true, cond_false, Nat.reduceBEq])
    clear hN11
    try clear N11
    refine Ze fun N12 hN12 => ?_
    simp (maxSteps := 2000000) only [↓Zs, ↓vdn, vup, cond_true, cond_false, Zg, ev, Nat.reduceBEq]
    refine hN12 [(0, Zd (k : Nat)), (1, v), (2, Zd (ee : Nat)), (3, Zd ct), (8, .bool false), (9, p), (10, .int .i64 0), (11, .pointer (some ⟨H.length, 0, none⟩)), (12, .pointer (some ⟨H.length + 1, 0, none⟩)), (13, .int .i64 0), (76, Zd (i : Nat))] _ _ ?_ (by simp (maxSteps := 2000000) only [vup, cond_true, cond_false, Nat.reduceBEq])
    clear hN12
    try clear N12
    refine Zl fun B hB => ?_
    refine Zn ?_
    refine Ze fun N13 hN13 => ?_
    simp (maxSteps := 2000000) only [↓Za, ↓Zb, ↓Zc, vup, cond_true, cond_false, aop, Zg, ev, sput, Zf, Nat.reduceBEq]
    refine hN13 [(0, Zd (k : Nat)), (1, v), (2, Zd (ee : Nat)), (3, Zd ct), (8, .bool false), (9, p), (10, .int .i64 0), (11, .pointer (some ⟨H.length, 0, none⟩)), (12, .pointer (some ⟨H.length + 1, 0, none⟩)), (13, .int .i64 0), (14, Zd (i : Nat)), (76, Zd (i : Nat))] _ _ ?_ (by simp (maxSteps := 2000000) only [vup, cond_true, cond_false, Nat.reduceBEq])
    clear hN13
    try clear N13
    have p1 := small_mul' (a := 12) (by decide) s1.num
    have p2 := small_mul' (a := 12) (by decide) s2.num
    have p3 := small_mul' (a := (i : Int)) (by omega) (dn s1)
    have p4 := small_mul' (a := (i : Int)) (by omega) (dn s2)
    have m1 : mulV .i64 12 lo.num = 12 * lo.num := mulN (by omega)
    have m2 : mulV .i64 (i : Int) (lo.den : Int) = (i : Int) * lo.den := mulN (by omega)
    have m3 : mulV .i64 12 hi.num = 12 * hi.num := mulN (by omega)
    have m4 : mulV .i64 (i : Int) (hi.den : Int) = (i : Int) * hi.den := mulN (by omega)
    have hin2 := prF_num (lo := lo) (hi := hi) i
    refine Ze fun N14 hN14 => ?_
    simp only [q10_10]
    refine Xs 9 fun N1 hN1 => ?_
    simp (maxSteps := 2000000) only [↓Za, ↓Zb, ↓Zc, vup, cond_true, cond_false, aop, ev, sput, Zf, Yk, Yl, Nat.reduceBEq, tyf, List.take_succ_cons, List.take_zero, fA0, fA1, loadF0 b9, loadF1 b9, m1, m2]
    refine hN1 _ _ ?_
    clear hN1 N1
    simp only [List.drop_succ_cons, List.drop_zero]
    have fin : ∀ e1, ELe e1 [(0, Zd (k : Nat)), (1, v), (2, Zd (ee : Nat)), (3, Zd ct), (8, .bool false), (9, p), (10, .int .i64 0), (11, .pointer (some ⟨H.length, 0, none⟩)), (12, .pointer (some ⟨H.length + 1, 0, none⟩)), (13, .int .i64 0), (14, Zd (i : Nat)), (15, .bool (prF lo hi i)), (76, Zd (i : Nat))] → N14 e1 G := by
      intro e1 he
      refine hN14 _ _ _ ?_ he
      have hct := icontains_call (x := ((i : Nat) : Int)) hpG (by omega)
      rw [pr_contains hk'] at hct
      have hAA : ∀ A : Bool, (A != A) = false := fun A => by cases A <;> rfl
      refine Ze fun N15 hN15 => ?_
      simp (maxSteps := 2000000) only [↓Za, ↓Zb, ↓Zc, vup, List.map_cons, List.map_nil, cond_true, cond_false, aop, Zg, ev, sput, Zf, Yk, Yl, Nat.reduceBEq, tyf, Yr, List.nil_append, List.append_nil]
      refine (hct).mono ?_
      rintro _ G ⟨rfl, rfl⟩
      simp (maxSteps := 2000000) only [hAA]
      refine hN15 [(0, Zd (k : Nat)), (1, v), (2, Zd (ee : Nat)), (3, Zd ct), (8, .bool false), (9, p), (10, .int .i64 0), (11, .pointer (some ⟨H.length, 0, none⟩)), (12, .pointer (some ⟨H.length + 1, 0, none⟩)), (13, .int .i64 0), (14, Zd (i : Nat)), (15, .bool (prF lo hi i)), (76, Zd (i : Nat)), (101, .bool false)] _ _ ?_ (by simp (maxSteps := 2000000) only [vup, cond_true, cond_false, Nat.reduceBEq])
      clear hN15
      try clear N15
      refine Yz rfl ?_
      refine Zi ?_
      simp (maxSteps := 2000000) only [↓Zs, Zg, Zo]
      refine hB [(0, Zd (k : Nat)), (1, v), (2, Zd (ee : Nat)), (3, Zd ct), (8, .bool false), (9, p), (10, .int .i64 0), (11, .pointer (some ⟨H.length, 0, none⟩)), (12, .pointer (some ⟨H.length + 1, 0, none⟩)), (13, .int .i64 0), (76, Zd (i : Nat))] _ _ ?_ (by simp (maxSteps := 2000000) only [vup, cond_true, cond_false, Nat.reduceBEq])
      clear hB
      try clear B
      refine Zi ?_
      simp (maxSteps := 2000000) only [↓Za, ↓Zb, ↓Zc, vup, cond_true, cond_false, aop, ev, sput, Zf, Yk, Yl, Nat.reduceBEq, add1 (show i < 9223372036854775807 by omega)]
      exact hQ2 _ _ _ ⟨i + 1, by omega, by omega, by simp (maxSteps := 2000000) only [vup, cond_true, cond_false, Nat.reduceBEq], rfl⟩
    cases hA : decide (12 * lo.num ≤ (i : Int) * (lo.den : Int)) with
    | false =>
      rw [hA, Bool.false_and] at hin2
      rw [hin2] at fin
      simp (maxSteps := 2000000) only [↓Za, ↓Zb, ↓Zc, ↓vdn, vup, cond_true, cond_false, aop, Zg, ev, sput, Zf, Nat.reduceBEq]
      exact fin _ (by simp (maxSteps := 2000000) only [vup, cond_true, cond_false, Nat.reduceBEq])
    | true =>
      rw [hA, Bool.true_and] at hin2
      rw [hin2] at fin
      simp (maxSteps := 2000000) only [↓Za, ↓Zb, ↓Zc, ↓vdn, vup, cond_true, cond_false, aop, Zg, ev, sput, Zf, Yk, Yl, Nat.reduceBEq, tyf, fA0, fA1, loadF0 b10, loadF1 b10, m3, m4]
      exact fin _ (by simp (maxSteps := 2000000) only [vup, cond_true, cond_false, Nat.reduceBEq])
  · obtain rfl : i = 13 := by omega
    refine Ze fun N16 hN16 => ?_
    simp (maxSteps := 2000000) only [↓Za, ↓Zb, ↓Zc, vup, cond_true, cond_false, aop, Zg, ev, sput, Zf, Yk, Yl, Nat.reduceBEq, hin]
    refine hN16 [(0, Zd (k : Nat)), (1, v), (2, Zd (ee : Nat)), (3, Zd ct), (8, .bool false), (9, p), (10, .int .i64 0), (11, .pointer (some ⟨H.length, 0, none⟩)), (12, .pointer (some ⟨H.length + 1, 0, none⟩)), (13, .int .i64 0), (76, Zd ((13 : Nat) : Nat)), (77, .bool false)] _ _ ?_ (by simp (maxSteps := 2000000) only [vup, cond_true, cond_false, Nat.reduceBEq])
    clear hN16
    try clear N16
    refine Ze fun N17 hN17 => ?_
    simp (maxSteps := 2000000) only [↓Xl, ↓vdn, vup, cond_true, cond_false, Zg, ev, Nat.reduceBEq]
    refine hQ2 _ _ _ (hQ _ _ _ ?_)
    simp (maxSteps := 2000000) only [Zg, Zo, Zu, if_true]
    refine hZ [(0, Zd (k : Nat)), (1, v), (2, Zd (ee : Nat)), (3, Zd ct), (8, .bool false), (9, p), (10, .int .i64 0), (11, .pointer (some ⟨H.length, 0, none⟩)), (12, .pointer (some ⟨H.length + 1, 0, none⟩)), (13, .int .i64 0)] _ _ ?_ (by simp (maxSteps := 2000000) only [vup, cond_true, cond_false, Nat.reduceBEq])
    clear hZ
    try clear Z
    clear hQ2 hQ
    obtain ⟨cc, hcc, er⟩ := remU13 ct
    have h13 : ¬ (13 : Int) = 0 := by decide
    refine Ze fun N18 hN18 => ?_
    simp (maxSteps := 2000000) only [↓Za, ↓Zb, ↓Zc, vup, cond_true, cond_false, aop, Zg, ev, sput, Zf, Yk, Yl, Nat.reduceBEq, tyf, convK, ne_eq, h13, not_false_eq_true, er]
    refine hN18 [(0, Zd (k : Nat)), (1, v), (2, Zd (ee : Nat)), (3, Zd (cc : Nat)), (8, .bool false), (9, p), (10, .int .i64 0), (11, .pointer (some ⟨H.length, 0, none⟩)), (12, .pointer (some ⟨H.length + 1, 0, none⟩)), (13, .int .i64 0)] _ _ ?_ (by simp (maxSteps := 2000000) only [vup, cond_true, cond_false, Nat.reduceBEq])
    clear hN18
    try clear N18
    -- one bet more
    obtain ⟨r, G1, hdet, hE4, hcl, hfr⟩ := cloneR_det hvG hl16
    have bldR : ∀ {x y : Int} {K : Value → Prop}, Wx prog 24 [(0, Zd x), (1, Zd y)] K = K (.agg #[Zd x, Zd y]) := fun {x y K} => by
      simp [Wx, zero_24, fillL, pl_24_0, pl_24_1, Wd, cellsOf, Yc]
    have lit : ∀ {z : Zh} {x y : Int} {K : Value → Zh → Prop}, Yj prog z 22 1 [(0, .agg #[Zd x, Zd y])] K = K (.slice (some ⟨z.length, 0, none⟩) 1 1) (z ++ [.ints [x, y] 24 false]) := fun {z x y K} => by
      simp only [Yj, el_22, zero_24, esz_24, reps, fillL, mkb, Wd, cellsOf, List.length_cons, List.length_nil, Nat.zero_add, Nat.zero_mul, Yc]
      refine propext ⟨fun h => ?_, fun h => ⟨trivial, by decide, by decide, ?_⟩⟩
      · simpa [Xa] using h.2.2.2
      · simpa [Xa] using h
    refine Ze fun N19 hN19 => ?_
    simp (maxSteps := 2000000) only [↓Za, ↓Zb, ↓Zc, vup, List.map_cons, List.map_nil, cond_true, cond_false, aop, Zg, ev, sput, Zf, Zk, Nat.reduceBEq, Yr, List.nil_append, List.append_nil]
    refine (hdet).mono ?_
    rintro _ _ ⟨rfl, rfl⟩
    simp (maxSteps := 2000000) only [bldR, lit]
    refine (hcl.ext (Ext.app _ _ _)).app hl16 (Yh _ _) (h0 := G.length) hfr fun m G2 hm hE5 => ?_
    have hEG2 : Ext (fun _ => False) G G2 := by
      have l1 := hE4.1
      have l2 := hE5.1
      rw [List.length_append] at l2
      refine ⟨by omega, fun z hz _ => ?_⟩
      rw [hE5.2 z (by rw [List.length_append]; omega) (by omega), List.getElem?_append_left (by omega)]
      exact hE4.2 z hz id
    refine hN19 [(0, Zd (k : Nat)), (1, v), (2, Zd (ee : Nat)), (3, Zd (cc : Nat)), (8, .bool false), (9, p), (10, .int .i64 0), (11, .pointer (some ⟨H.length, 0, none⟩)), (12, .pointer (some ⟨H.length + 1, 0, none⟩)), (13, .int .i64 0), (16, m)] _ _ ?_ (by simp (maxSteps := 2000000) only [vup, cond_true, cond_false, Nat.reduceBEq])
    clear hN19
    try clear N19
    clear lit bldR hdet hcl hfr hE5 hE4
    have hmp := hm.pair
    obtain ⟨L2, hL2⟩ : ∃ X, X = l ++ [(((ee : Nat) : Int), ((cc : Nat) : Int))] := ⟨_, rfl⟩
    have hms := hmore ((cc : Nat) : Int)
    rw [← hL2] at hmp hms
    have hml : L2.length < 9223372036854775808 := by rw [hL2, List.length_append, List.length_singleton]; omega
    refine Ze fun N20 hN20 => ?_
    simp (maxSteps := 2000000) only [↓Za, ↓Zb, ↓Zc, vup, List.map_cons, List.map_nil, cond_true, cond_false, aop, Zg, ev, sput, Zf, Nat.reduceBEq, Yr, List.nil_append, List.append_nil]
    refine (of_copy hmp hml).mono ?_
    rintro u3 h3 ⟨hu3, hE6⟩
    refine (sound_call (n := ((k : Nat) : Int)) hu3 (by rw [List.length_take]; omega) fun hv2 => ?_).mono ?_
    · rw [valid_take] at hv2
      have h6 : L2.length ≤ 6 := (Wr hv2).2.2.2.1
      rw [List.take_of_length_le (by omega), Int.toNat_natCast]
      exact tame_all (by omega) (cts_of hv2)
    rintro _ F ⟨hE7, x, g, rfl, his⟩
    simp (maxSteps := 2000000) only [extr_20, extr_21]
    refine hN20 [(0, Zd (k : Nat)), (1, v), (2, Zd (ee : Nat)), (3, Zd (cc : Nat)), (8, .bool false), (9, p), (10, .int .i64 0), (11, .pointer (some ⟨H.length, 0, none⟩)), (12, .pointer (some ⟨H.length + 1, 0, none⟩)), (13, .int .i64 0), (16, m), (17, x), (18, .int .i64 g)] _ _ ?_ (by simp (maxSteps := 2000000) only [vup, cond_true, cond_false, Nat.reduceBEq])
    clear hN20
    try clear N20
    have hGF := hEG2.trans (hE6.trans hE7)
    have hmF := hmp.ext (hE6.trans hE7)
    have hpF := intExt' hpG hGF
    have rbm := rbets_call (h := F) (n := ((k : Nat) : Int)) hmF hml
    have sorted := issorted_call hpF (by omega)
    rw [pr_sorted] at sorted
    rw [SoundIs, valid_take] at his
    cases hv2 : Yu ((k : Nat) : Int) L2 with
    | false =>
      rw [hv2, if_neg (by simp)] at his
      obtain ⟨rfl, rfl⟩ := his
      rw [hv2] at rbm
      refine Zl fun M hM => ?_
      refine Ze fun N21 hN21 => ?_
      simp (maxSteps := 2000000) only [↓Za, ↓Zb, ↓Zc, vup, cond_true, cond_false, aop, Zg, ev, sput, Zf, Yk, Yl, Nat.reduceBEq, r22]
      refine hN21 [(0, Zd (k : Nat)), (1, v), (2, Zd (ee : Nat)), (3, Zd (cc : Nat)), (8, .bool false), (9, p), (10, .int .i64 0), (11, .pointer (some ⟨H.length, 0, none⟩)), (12, .pointer (some ⟨H.length + 1, 0, none⟩)), (13, .int .i64 0), (16, m), (17, .slice none 0 0), (18, .int .i64 2), (122, .bool true)] _ _ ?_ (by simp (maxSteps := 2000000) only [vup, cond_true, cond_false, Nat.reduceBEq])
      clear hN21
      try clear N21
      refine Xr rfl ?_
      refine Ze fun N22 hN22 => ?_
      simp only [q10_18]
      refine Xs 5 fun N1 hN1 => ?_
      simp (maxSteps := 2000000) only [↓Za, ↓Zb, ↓Zc, vup, List.map_cons, List.map_nil, cond_true, cond_false, aop, ev, sput, Zf, unK, Nat.reduceBEq, Yr, List.nil_append, List.append_nil, List.take_succ_cons, List.take_zero]
      refine (rbm).mono ?_
      rintro _ F ⟨rfl, rfl⟩
      simp (maxSteps := 2000000) only [vup]
      refine hN1 _ _ ?_
      clear hN1 N1
      simp only [List.drop_succ_cons, List.drop_zero]
      refine Xs 3 fun N1 hN1 => ?_
      simp (maxSteps := 2000000) only [↓Za, ↓Zb, ↓Zc, ↓vdn, vup, List.map_cons, List.map_nil, cond_true, cond_false, aop, ev, sput, Zf, Nat.reduceBEq, Yr, List.nil_append, List.append_nil, List.take_succ_cons, List.take_zero]
      refine (sorted).mono ?_
      rintro _ F ⟨rfl, rfl⟩
      refine hN1 _ _ ?_
      clear hN1 N1
      simp only [List.drop_succ_cons, List.drop_zero]
      simp (maxSteps := 2000000) only [↓Za, ↓Zb, ↓Zc, ↓vdn, vup, List.map_nil, cond_true, cond_false, aop, Zg, ev, sput, Zf, Nat.reduceBEq, Yr, List.append_nil]
      refine ((aw1 F)).mono ?_
      rintro _ F ⟨rfl, hE9⟩
      refine hN22 [(0, Zd (k : Nat)), (1, v), (2, Zd (ee : Nat)), (3, Zd (cc : Nat)), (8, .bool true), (9, p), (10, .int .i64 0), (11, .pointer (some ⟨H.length, 0, none⟩)), (12, .pointer (some ⟨H.length + 1, 0, none⟩)), (13, .int .i64 0), (16, m), (17, .slice none 0 0), (18, .int .i64 2), (122, .bool true)] _ _ ?_ (by simp (maxSteps := 2000000) only [vup, cond_true, cond_false, Nat.reduceBEq])
      clear hN22
      try clear N22
      refine Zi ?_
      simp (maxSteps := 2000000) only [↓Zz, vup, cond_true, cond_false, Zg, Nat.reduceBEq, Zu, Xx, tup]
    | true =>
      have h6 : L2.length ≤ 6 := (Wr hv2).2.2.2.1
      rw [hv2, if_pos rfl, List.take_of_length_le (by omega), Int.toNat_natCast] at his
      have hct := icontains_call (x := ((cc : Nat) : Int)) hpF (by omega)
      rw [pr_contains hcc] at hct
      have key : (g = 5 ∧ prF lo hi cc = false) ∨ (g = 0 ∧ prF lo hi cc = true) := by
        cases hcs : Yb k L2 with
        | nil =>
          rw [hcs] at his
          refine .inl ⟨his.2, ?_⟩
          rw [← Bool.not_eq_true, prF_iff, ← hms]
          exact fun h => h hcs
        | cons b bs =>
          rw [hcs] at his
          refine .inr ⟨his.1, prF_iff.2 (hms.1 ?_)⟩
          rw [hcs]; simp
      have tt : ((true : Bool) == true) = true := rfl
      have ff : ((false : Bool) == false) = true := rfl
      refine Zl fun M hM => ?_
      rcases key with ⟨rfl, hpf⟩ | ⟨rfl, hpf⟩
      · have _t : True := trivial
        rw [hpf] at hct
        refine Ze fun N23 hN23 => ?_
        simp (maxSteps := 2000000) only [↓Za, ↓Zb, ↓Zc, vup, cond_true, cond_false, aop, Zg, ev, sput, Zf, Yk, Yl, Nat.reduceBEq, r52]
        refine hN23 [(0, Zd (k : Nat)), (1, v), (2, Zd (ee : Nat)), (3, Zd (cc : Nat)), (8, .bool false), (9, p), (10, .int .i64 0), (11, .pointer (some ⟨H.length, 0, none⟩)), (12, .pointer (some ⟨H.length + 1, 0, none⟩)), (13, .int .i64 0), (16, m), (17, x), (18, .int .i64 5), (122, .bool false)] _ _ ?_ (by simp (maxSteps := 2000000) only [vup, cond_true, cond_false, Nat.reduceBEq])
        clear hN23
        try clear N23
        refine Yz rfl ?_
        refine Zi ?_
        simp (maxSteps := 2000000) only [↓Zs, Zg]
        refine hM [(0, Zd (k : Nat)), (1, v), (2, Zd (ee : Nat)), (3, Zd (cc : Nat)), (8, .bool false), (9, p), (10, .int .i64 0), (11, .pointer (some ⟨H.length, 0, none⟩)), (12, .pointer (some ⟨H.length + 1, 0, none⟩)), (13, .int .i64 0), (16, m), (17, x), (18, .int .i64 5)] _ _ ?_ (by simp (maxSteps := 2000000) only [vup, cond_true, cond_false, Nat.reduceBEq])
        clear hM
        try clear M
        refine Ze fun N24 hN24 => ?_
        simp only [q10_19]
        refine Xs 6 fun N1 hN1 => ?_
        simp (maxSteps := 2000000) only [↓Za, ↓Zb, ↓Zc, vup, List.map_cons, List.map_nil, cond_true, cond_false, aop, ev, sput, Zf, Yk, Yl, Nat.reduceBEq, tyf, Yr, List.nil_append, List.append_nil, List.take_succ_cons, List.take_zero, r50]
        refine (hct).mono ?_
        rintro _ F ⟨rfl, rfl⟩
        simp (maxSteps := 2000000) only [ff]
        refine hN1 _ _ ?_
        clear hN1 N1
        simp only [List.drop_succ_cons, List.drop_zero]
        refine Xs 4 fun N1 hN1 => ?_
        simp (maxSteps := 2000000) only [↓Za, ↓Zb, ↓Zc, ↓vdn, vup, List.map_cons, List.map_nil, cond_true, cond_false, aop, ev, sput, Zf, Nat.reduceBEq, Yr, List.nil_append, List.append_nil, List.take_succ_cons, List.take_zero]
        refine (sorted).mono ?_
        rintro _ F ⟨rfl, rfl⟩
        refine hN1 _ _ ?_
        clear hN1 N1
        simp only [List.drop_succ_cons, List.drop_zero]
        simp (maxSteps := 2000000) only [↓Za, ↓Zb, ↓Zc, ↓vdn, vup, List.map_nil, cond_true, cond_false, aop, Zg, ev, sput, Zf, Nat.reduceBEq, Yr, List.append_nil]
        refine ((aw1 F)).mono ?_
        rintro _ F ⟨rfl, hE9⟩
        refine hN24 [(0, Zd (k : Nat)), (1, v), (2, Zd (ee : Nat)), (3, Zd (cc : Nat)), (8, .bool true), (9, p), (10, .int .i64 0), (11, .pointer (some ⟨H.length, 0, none⟩)), (12, .pointer (some ⟨H.length + 1, 0, none⟩)), (13, .int .i64 0), (16, m), (17, x), (18, .int .i64 5)] _ _ ?_ (by simp (maxSteps := 2000000) only [vup, cond_true, cond_false, Nat.reduceBEq])
        clear hN24
        try clear N24
        refine Zi ?_
        simp (maxSteps := 2000000) only [↓Zz, vup, cond_true, cond_false, Nat.reduceBEq, Zu, Xx, tup]
      · have _t : True := trivial
        rw [hpf] at hct
        refine Ze fun N25 hN25 => ?_
        simp (maxSteps := 2000000) only [↓Za, ↓Zb, ↓Zc, vup, cond_true, cond_false, aop, Zg, ev, sput, Zf, Yk, Yl, Nat.reduceBEq, r02]
        refine hN25 [(0, Zd (k : Nat)), (1, v), (2, Zd (ee : Nat)), (3, Zd (cc : Nat)), (8, .bool false), (9, p), (10, .int .i64 0), (11, .pointer (some ⟨H.length, 0, none⟩)), (12, .pointer (some ⟨H.length + 1, 0, none⟩)), (13, .int .i64 0), (16, m), (17, x), (18, .int .i64 0), (122, .bool false)] _ _ ?_ (by simp (maxSteps := 2000000) only [vup, cond_true, cond_false, Nat.reduceBEq])
        clear hN25
        try clear N25
        refine Yz rfl ?_
        refine Zi ?_
        simp (maxSteps := 2000000) only [↓Zs, Zg]
        refine hM [(0, Zd (k : Nat)), (1, v), (2, Zd (ee : Nat)), (3, Zd (cc : Nat)), (8, .bool false), (9, p), (10, .int .i64 0), (11, .pointer (some ⟨H.length, 0, none⟩)), (12, .pointer (some ⟨H.length + 1, 0, none⟩)), (13, .int .i64 0), (16, m), (17, x), (18, .int .i64 0)] _ _ ?_ (by simp (maxSteps := 2000000) only [vup, cond_true, cond_false, Nat.reduceBEq])
        clear hM
        try clear M
        refine Ze fun N26 hN26 => ?_
        simp only [q10_19]
        refine Xs 6 fun N1 hN1 => ?_
        simp (maxSteps := 2000000) only [↓Za, ↓Zb, ↓Zc, vup, List.map_cons, List.map_nil, cond_true, cond_false, aop, ev, sput, Zf, Yk, Yl, Nat.reduceBEq, tyf, Yr, List.nil_append, List.append_nil, List.take_succ_cons, List.take_zero, r00]
        refine (hct).mono ?_
        rintro _ F ⟨rfl, rfl⟩
        simp (maxSteps := 2000000) only [tt]
        refine hN1 _ _ ?_
        clear hN1 N1
        simp only [List.drop_succ_cons, List.drop_zero]
        refine Xs 4 fun N1 hN1 => ?_
        simp (maxSteps := 2000000) only [↓Za, ↓Zb, ↓Zc, ↓vdn, vup, List.map_cons, List.map_nil, cond_true, cond_false, aop, ev, sput, Zf, Nat.reduceBEq, Yr, List.nil_append, List.append_nil, List.take_succ_cons, List.take_zero]
        refine (sorted).mono ?_
        rintro _ F ⟨rfl, rfl⟩
        refine hN1 _ _ ?_
        clear hN1 N1
        simp only [List.drop_succ_cons, List.drop_zero]
        simp (maxSteps := 2000000) only [↓Za, ↓Zb, ↓Zc, ↓vdn, vup, List.map_nil, cond_true, cond_false, aop, Zg, ev, sput, Zf, Nat.reduceBEq, Yr, List.append_nil]
        refine ((aw1 F)).mono ?_
        rintro _ F ⟨rfl, hE9⟩
        refine hN26 [(0, Zd (k : Nat)), (1, v), (2, Zd (ee : Nat)), (3, Zd (cc : Nat)), (8, .bool true), (9, p), (10, .int .i64 0), (11, .pointer (some ⟨H.length, 0, none⟩)), (12, .pointer (some ⟨H.length + 1, 0, none⟩)), (13, .int .i64 0), (16, m), (17, x), (18, .int .i64 0)] _ _ ?_ (by simp (maxSteps := 2000000) only [vup, cond_true, cond_false, Nat.reduceBEq])
        clear hN26
        try clear N26
        refine Zi ?_
        simp (maxSteps := 2000000) only [↓Zz, vup, cond_true, cond_false, Nat.reduceBEq, Zu, Xx, tup]
end Go.Proofs.Try.Am

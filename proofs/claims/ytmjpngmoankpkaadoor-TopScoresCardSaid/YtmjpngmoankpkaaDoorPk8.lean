/-
  top: the law TopScores.
-/
import Derived.Test.YtmjpngmoankpkaaDoorPk7
import Derived.Test.YtmjpngmoankpkaaDoorPk6
set_option linter.all false
namespace Go.Proofs.Tryd.Am.Ra
open Go.Proofs.Tryd.Am
open Go.Am Rb
set_option maxRecDepth 100000
set_option maxHeartbeats 2000000

/-- Two slices that one run makes. -/
structure S2 (h hp : Zd) (av bv : Value) (A B : List Int) : Prop where
  a : OwnSl 3 hp av A
  b : OwnSl 3 hp bv B
  e : Ext (fun _ => False) h hp
  ha : ∀ i, Zw av = some i → h.length ≤ i
  hb : ∀ i, Zw bv = some i → h.length ≤ i
  ne : ∀ i, Zw av = some i → Zw bv ≠ some i
theorem S2.nil (h : Zd) : S2 h h (.slice none 0 0) (.slice none 0 0) [] [] := ⟨.inl ⟨rfl, rfl⟩, .inl ⟨rfl, rfl⟩, Ext.refl _ _, nofun, nofun, nofun⟩
theorem S2.swap {h hp : Zd} {av bv : Value} {A B : List Int} (s : S2 h hp av bv A B) : S2 h hp bv av B A := ⟨s.b, s.a, s.e, s.hb, s.ha, fun i h1 h2 => s.ne i h2 h1⟩
theorem S2.push {h hp : Zd} {av bv : Value} {A B : List Int} (s : S2 h hp av bv A B) {x : Int} (hn : A.length < 1099511627776) {K : Value → Zd → Prop} (hk : ∀ v' h', S2 h h' v' bv (A ++ [x]) B → K v' h') :
    Yh prog (hp ++ [.ints [x] 3 false]) 27 27 av (.slice (some ⟨hp.length, 0, none⟩) 1 1) K := by
  have hx1 : Ext (fun _ => False) hp (hp ++ [.ints [x] 3 false]) := Ext.app _ _ _
  refine (s.a.ext hx1 fun _ _ => id).append app_27_27 hn (Yk _ _) fun v' h' ho hE' hb => hk v' h' ⟨ho, ?_, ?_, fun b hbb => ?_, s.hb, fun i h1 h2 => ?_⟩
  · refine (s.b.ext hx1 fun _ _ => id).ext hE' fun i hi hc => ?_
    exact s.ne i hc hi
  · have h1 := s.e.1
    have h2 := hx1.1
    have h3 := hE'.1
    refine ⟨by omega, fun i hi _ => ?_⟩
    rw [hE'.2 i (by omega) fun hbb => by have := s.ha i hbb; omega, hx1.2 i (by omega) id]
    exact s.e.2 i hi id
  · rcases hb with h1 | ⟨b', h1, h2⟩
    · exact s.ha b (h1 ▸ hbb)
    · rw [h1] at hbb; cases hbb; have := s.e.1; have := hx1.1; omega
  · rcases hb with h3 | ⟨b', h3, h4⟩
    · exact s.ne i (h3 ▸ h1) h2
    · rw [h3] at h1; cases h1; have := s.b.lt h2; have := hx1.1; omega

def mod7 (i : Int) : Nat := (IntKind.u64.wrap i).toNat % 7
theorem mod7_eq (i : Int) : IntKind.i64.wrap ((IntKind.u64.wrap i).tmod 7) = ((mod7 i : Nat) : Int) := by
  have h1 : 0 ≤ IntKind.u64.wrap i ∧ IntKind.u64.wrap i < 18446744073709551616 := by rw [IntKind.wrap_u64]; omega
  have hlt : mod7 i < 7 := Nat.mod_lt _ (by omega)
  have e : (IntKind.u64.wrap i).tmod 7 = ((mod7 i : Nat) : Int) := by
    rw [Int.tmod_eq_emod_of_nonneg h1.1, mod7, Int.natCast_emod, Int.toNat_of_nonneg h1.1]; rfl
  rw [e]; exact wrap_id (by omega) (by omega)
theorem upL_snoc (k : Nat) : upL k ++ [((k : Nat) : Int)] = upL (k + 1) := by rw [upL, upL, List.range_succ, List.map_append]; rfl
theorem rep_snoc (k : Nat) (x : Int) : List.replicate k x ++ [x] = List.replicate (k + 1) x := by rw [List.replicate_succ']

theorem half7 {n : Nat} (h1 : 1 ≤ n) (h7 : n ≤ 7) : quoV .i64 (subV .i64 (n : Int) 1) 2 = (((n - 1) / 2 : Nat) : Int) := by
  have : n = 1 ∨ n = 2 ∨ n = 3 ∨ n = 4 ∨ n = 5 ∨ n = 6 ∨ n = 7 := by omega
  rcases this with rfl | rfl | rfl | rfl | rfl | rfl | rfl <;> decide +kernel
theorem rem7 {n : Nat} (h7 : n ≤ 7) : (n : Int).tmod 2 = ((n % 2 : Nat) : Int) := by
  have : n = 0 ∨ n = 1 ∨ n = 2 ∨ n = 3 ∨ n = 4 ∨ n = 5 ∨ n = 6 ∨ n = 7 := by omega
  rcases this with rfl | rfl | rfl | rfl | rfl | rfl | rfl | rfl <;> decide +kernel
theorem upL_get {k i : Nat} (h : i < k) : (upL k).getD i 0 = ((i : Nat) : Int) := by simp [upL, List.getD, h]
theorem rep_get {k i : Nat} {x : Int} (h : i < k) : (List.replicate k x).getD i 0 = x := by simp [List.getD, h]
theorem s6_callW [Tabs Tryd.prog] {args : List Value} {h : Zd} {Q : Value → Zd → Prop} (hsz : args.length ≤ 99) (hk : AWS Tryd.prog 99 s6 (Zr Tryd.prog [.tmp 2] Q) (Zm 0 args) h) : ACall Tryd.prog 6 args h Q :=
  Xr Tryd.func6 rfl (enters_of Tryd.func6 (by kernel_rfl) rfl) rfl rfl (by decide) s6_strip s6_ok hsz hk
theorem law_scores [BitTab prog 0] {h : Zd} (z : Int) : ACall prog 6 [Zh z] h fun r _ => r = .bool true := by
  have awk : ∀ {K : Value → Zd → Prop} {g : Zd}, K (.bool true) g → ACall prog 17 [] g K := fun {K g} hk => Or.awake_call.mono fun v h' ⟨h1, h2⟩ => by rw [h1, h2]; exact hk
  have h7 : mod7 z < 7 := Nat.mod_lt _ (by omega)
  obtain ⟨n, hn⟩ : ∃ n, mod7 z + 1 = n := ⟨_, rfl⟩
  have hn1 : 1 ≤ n := by omega
  have hn7 : n ≤ 7 := by omega
  have en : addV .i64 1 (IntKind.i64.wrap ((IntKind.u64.wrap z).tmod 7)) = ((n : Nat) : Int) := by
    rw [mod7_eq, addV, wrap_id (by omega) (by omega)]; omega
  have n00 : ((0 : Int) != 0) = false := rfl
  have e00 : ((0 : Int) == 0) = true := rfl
  have e11 : ((((1 : Nat) : Int)) == 1) = true := rfl
  have e44 : ((4 : Int) == 4) = true := rfl
  have e10 : ((1 : Int) == 0) = false := rfl
  have n70 : ¬ ((7 : Int) = 0) := by decide
  have n20 : ¬ ((2 : Int) = 0) := by decide
  have e2n := half7 hn1 hn7
  refine s6_callW (by simp) ?_
  simp only [s6]
  refine Zi fun N1 hN1 => ?_
  simp (maxSteps := 2000000) only [↓Za, ↓Zb, ↓Zc, vup, cond_false, aop, Zf, Zm, ev, sput, Ze, Nat.reduceBEq]
  refine hN1 [(0, Zh z), (2, .bool false)] _ _ ?_ (by simp (maxSteps := 2000000) only [vup, cond_true, cond_false, Nat.reduceBEq])
  clear hN1
  try clear N1
  refine Zi fun N2 hN2 => ?_
  simp (maxSteps := 2000000) only [↓Za, ↓Zb, ↓Zc, vup, cond_true, cond_false, aop, Zf, ev, sput, Ze, Yj, Yo, Nat.reduceBEq, tyf, convK, ne_eq, n70, not_false_eq_true, en]
  refine hN2 [(0, Zh (n : Nat)), (2, .bool false)] _ _ ?_ (by simp (maxSteps := 2000000) only [vup, cond_true, cond_false, Nat.reduceBEq])
  clear hN2
  try clear N2
  refine Zi fun N3 hN3 => ?_
  simp (maxSteps := 2000000) only [↓Za, ↓Zb, ↓Zc, vup, cond_false, aop, Zf, ev, sput, Ze, Nat.reduceBEq]
  refine hN3 [(0, Zh (n : Nat)), (2, .bool false), (3, .slice none 0 0), (4, .slice none 0 0)] _ _ ?_ (by simp (maxSteps := 2000000) only [vup, cond_true, cond_false, Nat.reduceBEq])
  clear hN3
  try clear N3
  refine aws_cutW fun Z hZ => ?_
  refine Zi fun N4 hN4 => ?_
  simp (maxSteps := 2000000) only [↓Za, ↓Zb, ↓Zc, vup, cond_true, cond_false, aop, Zf, ev, sput, Ze, Nat.reduceBEq]
  refine hN4 [(0, Zh (n : Nat)), (2, .bool false), (3, .slice none 0 0), (4, .slice none 0 0), (17, Zh (n : Nat)), (18, .int .i64 0)] _ _ ?_ (by simp (maxSteps := 2000000) only [vup, cond_true, cond_false, Nat.reduceBEq])
  clear hN4
  try clear N4
  refine Yz ?_
  refine Ye fun Q hQ => ?_
  refine aw_loopW (γ := Nat × Value × Value × Zd) (fun s => s.1 ≤ n ∧ S2 h s.2.2.2 s.2.1 s.2.2.1 (upL s.1) (List.replicate s.1 (((n - 1) / 2 : Nat) : Int)))
    (fun s => ([(0, Zh (n : Nat)), (2, .bool false), (3, s.2.1), (4, s.2.2.1), (17, Zh (n : Nat)), (18, Zh s.1)], s.2.2.2)) (fun s => n - s.1) (0, .slice none 0 0, .slice none 0 0, h) ⟨Nat.zero_le _, S2.nil h⟩ (by simp (maxSteps := 2000000) only [vup, cond_true, cond_false, Nat.reduceBEq, Int.natCast_zero]) rfl ?_
  rintro ⟨k, av, bv, hp⟩ ⟨hk, hs⟩
  simp only at hk hs
  refine Ye fun Q2 hQ2 => ?_
  simp only [l6_0]
  by_cases hkin : (k : Int) < n
  · have hk' : k < n := by omega
    refine Zi fun N5 hN5 => ?_
    simp (maxSteps := 2000000) only [↓Za, ↓Zb, ↓Zc, vup, cond_true, cond_false, aop, Zf, ev, sput, Ze, Yj, Yo, Nat.reduceBEq, hkin]
    refine hN5 [(0, Zh (n : Nat)), (2, .bool false), (3, av), (4, bv), (17, Zh (n : Nat)), (18, Zh (k : Nat)), (19, .bool true)] _ _ ?_ (by simp (maxSteps := 2000000) only [vup, cond_true, cond_false, Nat.reduceBEq])
    clear hN5
    try clear N5
    refine Zi fun N6 hN6 => ?_
    simp (maxSteps := 2000000) only [↓Zs, ↓vdn, vup, cond_true, cond_false, Zf, ev, Nat.reduceBEq]
    refine hN6 [(0, Zh (n : Nat)), (2, .bool false), (3, av), (4, bv), (17, Zh (n : Nat)), (18, Zh (k : Nat))] _ _ ?_ (by simp (maxSteps := 2000000) only [vup, cond_true, cond_false, Nat.reduceBEq])
    clear hN6
    try clear N6
    refine aws_cutW fun B hB => ?_
    refine Yz ?_
    refine Zi fun N7 hN7 => ?_
    simp (maxSteps := 2000000) only [↓Za, ↓Zb, ↓Zc, vup, cond_true, cond_false, aop, Zf, ev, sput, Ze, Nat.reduceBEq]
    refine hN7 [(0, Zh (n : Nat)), (2, .bool false), (3, av), (4, bv), (5, Zh (k : Nat)), (17, Zh (n : Nat)), (18, Zh (k : Nat))] _ _ ?_ (by simp (maxSteps := 2000000) only [vup, cond_true, cond_false, Nat.reduceBEq])
    clear hN7
    try clear N7
    refine Xg ?_
    refine aw_regcut 3 fun N1 hN1 => ?_
    simp (maxSteps := 2000000) only [↓Za, ↓Zb, ↓Zc, vup, List.map_cons, List.map_nil, cond_true, cond_false, aop, ev, sput, Ze, Nat.reduceBEq, List.take_succ_cons, List.take_zero, litI1]
    refine hN1 _ _ ?_
    clear hN1 N1
    simp only [List.drop_succ_cons, List.drop_zero]
    refine aw_regcut 1 fun N1 hN1 => ?_
    simp (maxSteps := 2000000) only [↓Za, ↓Zb, ↓Zc, vup, List.map_cons, List.map_nil, cond_true, cond_false, aop, ev, sput, Ze, Zj, Nat.reduceBEq, List.take_succ_cons, List.take_zero]
    refine hs.push (by simp [upL]; omega) fun av2 hp2 hs2 => ?_
    rw [upL_snoc] at hs2
    refine hN1 _ _ ?_
    clear hN1 N1
    simp only [List.drop_succ_cons, List.drop_zero]
    refine aw_regcut 5 fun N1 hN1 => ?_
    simp (maxSteps := 2000000) only [↓Za, ↓Zb, ↓Zc, vup, List.map_cons, List.map_nil, cond_true, cond_false, aop, ev, sput, Ze, Yj, Yo, Nat.reduceBEq, List.take_succ_cons, List.take_zero, litI1, e2n, ne_eq, n20, not_false_eq_true]
    refine hN1 _ _ ?_
    clear hN1 N1
    simp only [List.drop_succ_cons, List.drop_zero]
    refine aw_regcut 1 fun N1 hN1 => ?_
    simp (maxSteps := 2000000) only [↓Za, ↓Zb, ↓Zc, vup, List.map_cons, List.map_nil, cond_true, cond_false, aop, ev, sput, Ze, Zj, Nat.reduceBEq, List.take_succ_cons, List.take_zero]
    refine hs2.swap.push (by simp; omega) fun bv2 hp3 hs3 => ?_
    rw [rep_snoc] at hs3
    refine hN1 _ _ ?_
    clear hN1 N1
    simp only [List.drop_succ_cons, List.drop_zero]
    simp (maxSteps := 2000000) only [↓Za, ↓Zb, ↓Zc, vup, cond_true, cond_false, aop, Zf, Zp, ev, sput, Ze, Nat.reduceBEq]
    refine hB [(0, Zh (n : Nat)), (2, .bool false), (3, av2), (4, bv2), (17, Zh (n : Nat)), (18, Zh (k : Nat))] _ _ ?_ (by simp (maxSteps := 2000000) only [vup, cond_true, cond_false, Nat.reduceBEq])
    clear hB
    try clear B
    refine Xg ?_
    simp (maxSteps := 2000000) only [↓Za, ↓Zb, ↓Zc, vup, cond_true, cond_false, aop, ev, sput, Ze, Yj, Yo, Nat.reduceBEq, add1 (show k < 9223372036854775807 by omega)]
    exact hQ2 _ _ _ ⟨(k + 1, av2, bv2, hp3), ⟨by simp only; omega, hs3.swap⟩, by simp only; omega, by simp (maxSteps := 2000000) only [vup, cond_true, cond_false, Nat.reduceBEq], rfl⟩
  obtain rfl : k = n := by omega
  refine Zi fun N8 hN8 => ?_
  simp (maxSteps := 2000000) only [↓Za, ↓Zb, ↓Zc, vup, cond_true, cond_false, aop, Zf, ev, sput, Ze, Yj, Yo, Nat.reduceBEq, hkin]
  refine hN8 [(0, Zh k), (2, .bool false), (3, av), (4, bv), (17, Zh k), (18, Zh k), (19, .bool false)] _ _ ?_ (by simp (maxSteps := 2000000) only [vup, cond_true, cond_false, Nat.reduceBEq])
  clear hN8
  try clear N8
  refine Zi fun N9 hN9 => ?_
  simp (maxSteps := 2000000) only [↓Xa, ↓vdn, vup, cond_true, cond_false, Zf, ev, Nat.reduceBEq]
  refine hQ2 _ _ _ (hQ _ _ _ ?_)
  simp (maxSteps := 2000000) only [Zf, Zp, Zr, if_true]
  refine hZ [(0, Zh k), (2, .bool false), (3, av), (4, bv)] _ _ ?_ (by simp (maxSteps := 2000000) only [vup, cond_true, cond_false, Nat.reduceBEq])
  clear hZ
  try clear Z
  obtain ⟨sA, sB, _, _, _, _⟩ := hs
  have hvA := sA.int
  have hvB := sB.int
  clear sA sB
  have hlA : (upL k).length = k := by simp [upL]
  have hlB : (List.replicate k (((k - 1) / 2 : Nat) : Int)).length = k := by simp
  obtain ⟨uA1, uA2⟩ := upL_ok k hn1 hn7
  obtain ⟨uB1, uB2⟩ := evL_ok k hn1 hn7
  rw [evL, hlB] at uB2
  rw [evL] at uB1
  have rA : ∀ x ∈ upL k, -9223372036854775808 ≤ x ∧ x < 9223372036854775808 := fun x hx => by
    obtain ⟨i, hi, rfl⟩ := List.mem_map.1 hx
    have := List.mem_range.1 hi; omega
  have rB : ∀ x ∈ List.replicate k (((k - 1) / 2 : Nat) : Int), -9223372036854775808 ≤ x ∧ x < 9223372036854775808 := fun x hx => by
    rw [(List.mem_replicate.1 hx).2]; omega
  refine Zi fun N10 hN10 => ?_
  simp (maxSteps := 2000000) only [↓Za, ↓Zb, ↓Zc, vup, List.map_cons, List.map_nil, cond_true, cond_false, aop, Zf, ev, sput, Ze, Nat.reduceBEq, Yq, List.nil_append, List.append_nil]
  refine (make_call hvA (by omega) rA).mono ?_
  rintro r1 h1 ⟨hE1, hr1⟩
  rw [makeR, if_pos uA1, if_pos uA2] at hr1
  obtain ⟨w1, ts, rfl, hw1, ht1, hl1, hsc1⟩ := hr1
  have hvB1 := Yf hvB hE1
  rw [hlA] at hl1 hsc1
  have hsc : ∀ i, i < ts.length → scr (ts.getD i 0) = i := fun i hi => by
    have := hsc1 i (by omega)
    rw [upL_get (by omega)] at this
    exact Int.ofNat.inj this
  have hcy := no_cycle ht1 hsc
  have hpt := all_parts ht1 hsc
  have hr64 : ∀ {us : List Int}, trn us = true → ∀ x ∈ us, -9223372036854775808 ≤ x ∧ x < 9223372036854775808 := fun {us} ht x hx => by
    obtain ⟨i, hi, rfl⟩ := List.mem_iff_getElem.1 hx
    obtain ⟨h1, h2⟩ := trn_nat ht hi
    have hl := trn_len ht
    rw [List.getD, List.getElem?_eq_getElem hi] at h1 h2
    have h3 : us[i] = ((us[i].toNat : Nat) : Int) := h1
    have h4 : us[i].toNat < 2 ^ us.length := h2
    have h5 : 2 ^ us.length ≤ 2 ^ 8 := Nat.pow_le_pow_right (by decide) hl.2
    have h6 : us[i].toNat < 256 := Nat.lt_of_lt_of_le h4 h5
    omega
  simp (maxSteps := 2000000) only [extr_20, extr_21]
  refine hN10 [(0, Zh k), (2, .bool false), (3, av), (4, bv), (6, w1), (7, .int .i64 0)] _ _ ?_ (by simp (maxSteps := 2000000) only [vup, cond_true, cond_false, Nat.reduceBEq])
  clear hN10
  try clear N10
  refine Zi fun N11 hN11 => ?_
  simp (maxSteps := 2000000) only [↓Za, ↓Zs, ↓Zg, ↓Zb, ↓Zc, ↓vdn, vup, cond_true, cond_false, aop, Zf, ev, sput, Ze, Yj, Yo, Nat.reduceBEq, n00]
  refine hN11 [(0, Zh k), (2, .bool false), (3, av), (4, bv), (6, w1), (7, .int .i64 0)] _ _ ?_ (by simp (maxSteps := 2000000) only [vup, cond_true, cond_false, Nat.reduceBEq])
  clear hN11
  try clear N11
  have hne : ts ≠ [] := fun hc => by rw [hc] at hl1; simp at hl1; omega
  refine Zi fun N12 hN12 => ?_
  simp (maxSteps := 2000000) only [↓Za, ↓Zb, ↓Zc, vup, List.map_cons, List.map_nil, cond_true, cond_false, aop, Zf, ev, sput, Ze, Nat.reduceBEq, Yq, List.nil_append, List.append_nil]
  refine (clone_fresh hw1 hne (by omega)).mono ?_
  rintro l1 g1 ⟨b1, rfl, hb1, _, hF1⟩
  have hc1 : IntSl g1 (.slice (some ⟨b1, 0, some 0⟩) ts.length ts.length) ts := OwnSl.int (.inr ⟨b1, [], by simp, by simpa using hb1⟩)
  refine (cycles30_call hc1 (by omega) (hr64 ht1)).mono ?_
  rintro r2 h2 ⟨hE2, hr2⟩
  rw [if_pos ht1, hcy] at hr2
  obtain ⟨w2, rfl, hw2⟩ := hr2
  have hw12 := Yf hw1 (hF1.trans hE2)
  have hvB2 := Yf hvB1 (hF1.trans hE2)
  simp (maxSteps := 2000000) only [extr_20, extr_21]
  refine hN12 [(0, Zh k), (2, .bool false), (3, av), (4, bv), (6, w1), (7, .int .i64 0), (8, w2)] _ _ ?_ (by simp (maxSteps := 2000000) only [vup, cond_true, cond_false, Nat.reduceBEq])
  clear hN12
  try clear N12
  refine Zi fun N13 hN13 => ?_
  simp (maxSteps := 2000000) only [↓Za, ↓Zb, ↓Zc, vup, List.map_cons, List.map_nil, cond_true, cond_false, aop, Zf, ev, sput, Ze, Nat.reduceBEq, Yq, List.nil_append, List.append_nil]
  refine (parts_call hw12 (by omega) (hr64 ht1)).mono ?_
  rintro r3 h3 ⟨hE3, hr3⟩
  rw [if_pos ht1] at hr3
  obtain ⟨w3, rfl, hw3⟩ := hr3
  have hvB3 := Yf hvB2 hE3
  have l2 := hw2.trip.len
  have l3 := hw3.int.len
  rw [Xx, hpt, hl1] at l3
  simp (maxSteps := 2000000) only [extr_20, extr_21]
  refine hN13 [(0, Zh k), (2, .bool false), (3, av), (4, bv), (6, w1), (7, .int .i64 0), (8, w2), (9, w3), (10, .int .i64 0)] _ _ ?_ (by simp (maxSteps := 2000000) only [vup, cond_true, cond_false, Nat.reduceBEq])
  clear hN13
  try clear N13
  have ekk : (((k : Nat) : Int) != ((k : Nat) : Int)) = false := by simp
  refine Zi fun N14 hN14 => ?_
  simp (maxSteps := 2000000) only [↓Za, ↓Zs, ↓Zg, ↓Zv, ↓Zb, ↓Zc, ↓vdn, vup, List.map_cons, List.map_nil, cond_true, cond_false, aop, Zf, ev, sput, Ze, Yj, Yo, Zj, Nat.reduceBEq, Zr, Wa, tup, tyf, n00, l2, l3, List.length_nil, Int.natCast_zero, ekk]
  refine hN14 [(0, Zh k), (2, .bool false), (3, av), (4, bv), (6, w1), (7, .int .i64 0), (8, w2), (9, w3), (10, .int .i64 0)] _ _ ?_ (by simp (maxSteps := 2000000) only [vup, cond_true, cond_false, Nat.reduceBEq])
  clear hN14
  try clear N14
  refine Zi fun N15 hN15 => ?_
  simp (maxSteps := 2000000) only [↓Za, ↓Zb, ↓Zc, vup, List.map_cons, List.map_nil, cond_true, cond_false, aop, Zf, ev, sput, Ze, Nat.reduceBEq, Yq, List.nil_append, List.append_nil]
  refine (make_call hvB3 (by omega) rB).mono ?_
  rintro r4 h4 ⟨hE4, hr4⟩
  rw [makeR, if_pos uB1, hlB, uB2] at hr4
  by_cases hodd : k % 2 = 1
  · rw [if_pos (decide_eq_true hodd)] at hr4
    obtain ⟨w4, us, rfl, hw4, ht4, hl4, hsc4⟩ := hr4
    have hrem : ((k : Nat) : Int).tmod 2 = 1 := by
      rw [rem7 hn7, hodd]; rfl
    have hs4 : ∀ i, i < us.length → scr (us.getD i 0) = (k - 1) / 2 := fun i hi => by
      have := hsc4 i (by omega)
      rw [rep_get (by omega)] at this
      exact Int.ofNat.inj this
    have hp1 := one_part ht4 hs4 (by omega)
    simp (maxSteps := 2000000) only [extr_20, extr_21]
    refine hN15 [(0, Zh k), (2, .bool false), (3, av), (4, bv), (6, w1), (7, .int .i64 0), (8, w2), (9, w3), (10, .int .i64 0), (11, w4)] _ _ ?_ (by simp (maxSteps := 2000000) only [vup, cond_true, cond_false, Nat.reduceBEq])
    clear hN15
    try clear N15
    refine Zi fun N16 hN16 => ?_
    simp (maxSteps := 2000000) only [↓Za, ↓Zs, ↓Zg, ↓Zb, ↓Zc, ↓vdn, vup, cond_true, cond_false, aop, Zf, ev, sput, Ze, Yj, Yo, Nat.reduceBEq, ne_eq, n20, not_false_eq_true, hrem, e10]
    refine hN16 [(0, Zh k), (2, .bool false), (3, av), (4, bv), (6, w1), (7, .int .i64 0), (8, w2), (9, w3), (10, .int .i64 0), (11, w4)] _ _ ?_ (by simp (maxSteps := 2000000) only [vup, cond_true, cond_false, Nat.reduceBEq])
    clear hN16
    try clear N16
    refine Zi fun N17 hN17 => ?_
    simp (maxSteps := 2000000) only [↓Za, ↓Zb, ↓Zc, vup, List.map_cons, List.map_nil, cond_true, cond_false, aop, Zf, ev, sput, Ze, Nat.reduceBEq, Yq, List.nil_append, List.append_nil]
    refine (parts_call hw4 (by omega) (hr64 ht4)).mono ?_
    rintro r5 h5 ⟨hE5, hr5⟩
    rw [if_pos ht4] at hr5
    obtain ⟨w5, rfl, hw5⟩ := hr5
    have l5 := hw5.int.len
    rw [Xx, hp1] at l5
    simp (maxSteps := 2000000) only [extr_20, extr_21]
    refine hN17 [(0, Zh k), (2, .bool false), (3, av), (4, bv), (6, w1), (7, .int .i64 0), (8, w2), (9, w5), (10, .int .i64 0), (11, w4)] _ _ ?_ (by simp (maxSteps := 2000000) only [vup, cond_true, cond_false, Nat.reduceBEq])
    clear hN17
    try clear N17
    refine Zi fun N18 hN18 => ?_
    simp (maxSteps := 2000000) only [↓Za, ↓Zb, ↓Zc, ↓vdn, vup, List.map_cons, List.map_nil, cond_true, cond_false, aop, Zf, ev, sput, Ze, Yj, Yo, Zj, Nat.reduceBEq, tyf, e00, l5, e11, Yq, List.append_nil]
    refine awk ?_
    refine hN18 [(0, Zh k), (2, .bool true), (3, av), (4, bv), (6, w1), (7, .int .i64 0), (8, w2), (9, w5), (10, .int .i64 0), (11, w4)] _ _ ?_ (by simp (maxSteps := 2000000) only [vup, cond_true, cond_false, Nat.reduceBEq])
    clear hN18
    try clear N18
    refine Xg ?_
    simp (maxSteps := 2000000) only [↓Zv, vup, cond_true, cond_false, Nat.reduceBEq, Zr, Wa, tup]
  · rw [if_neg (fun hc => hodd (of_decide_eq_true hc))] at hr4
    subst hr4
    simp (maxSteps := 2000000) only [extr_20, extr_21]
    refine hN15 [(0, Zh k), (2, .bool false), (3, av), (4, bv), (6, w1), (7, .int .i64 4), (8, w2), (9, w3), (10, .int .i64 0), (11, .slice none 0 0)] _ _ ?_ (by simp (maxSteps := 2000000) only [vup, cond_true, cond_false, Nat.reduceBEq])
    clear hN15
    try clear N15
    have hrem : ((k : Nat) : Int).tmod 2 = 0 := by
      have : k % 2 = 0 := by omega
      rw [rem7 hn7, this]; rfl
    refine aws_cutW fun E hE => ?_
    refine Zi fun N19 hN19 => ?_
    simp (maxSteps := 2000000) only [↓Za, ↓Zb, ↓Zc, vup, cond_true, cond_false, aop, Zf, ev, sput, Ze, Yj, Yo, Nat.reduceBEq, ne_eq, n20, not_false_eq_true, hrem, e00]
    refine hN19 [(0, Zh k), (2, .bool false), (3, av), (4, bv), (6, w1), (7, .int .i64 4), (8, w2), (9, w3), (10, .int .i64 0), (11, .slice none 0 0), (74, .bool true)] _ _ ?_ (by simp (maxSteps := 2000000) only [vup, cond_true, cond_false, Nat.reduceBEq])
    clear hN19
    try clear N19
    refine aws_true rfl ?_
    refine Xg ?_
    simp (maxSteps := 2000000) only [↓Za, ↓Zg, ↓Zv, ↓Zb, ↓Zc, ↓vdn, vup, List.map_nil, cond_true, cond_false, aop, Zf, ev, sput, Ze, Yj, Yo, Nat.reduceBEq, Zr, Wa, tup, e44, Yq, List.append_nil]
    refine awk ?_
    simp (maxSteps := 2000000) only []
end Go.Proofs.Tryd.Am.Ra

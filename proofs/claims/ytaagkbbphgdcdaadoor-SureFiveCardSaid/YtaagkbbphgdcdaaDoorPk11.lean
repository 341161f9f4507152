/-
  sure: the law SureFive.
-/
import Derived.Test.YtaagkbbphgdcdaaDoorPk10
set_option linter.all false
namespace Go.Proofs.Tryd.Am
open Go.Am Sr
set_option maxRecDepth 100000
set_option maxHeartbeats 4000000

structure Met (xs : List Int) (i M : Nat) : Prop where
  rng : ∀ j, j < i → 0 ≤ xs.getD j 0 ∧ xs.getD j 0 < 5
  apart : ∀ j k, j < k → k < i → xs.getD j 0 ≠ xs.getD k 0
  lt : M < 32
  bit : ∀ b : Nat, M.testBit b = true ↔ ∃ j, j < i ∧ xs.getD j 0 = (b : Int)
theorem Met.nil (xs : List Int) : Met xs 0 0 := ⟨fun j h => absurd h (Nat.not_lt_zero j), fun j k _ h => absurd h (Nat.not_lt_zero k), by decide, fun b => by rw [Nat.zero_testBit]; exact ⟨fun h => (by cases h), fun ⟨j, h, _⟩ => absurd h (Nat.not_lt_zero j)⟩⟩
theorem Met.next {xs : List Int} {i M a : Nat} (m : Met xs i M) (hx : xs.getD i 0 = (a : Int)) (ha : a < 5) (hb : M.testBit a = false) : Met xs (i + 1) (M ||| 2 ^ a) := by
  refine ⟨fun j hj => ?_, fun j k hjk hk => ?_, Nat.or_lt_two_pow (n := 5) m.lt (Nat.pow_lt_pow_right (by decide) ha), fun b => ?_⟩
  · by_cases h : j = i
    · rw [h, hx]; omega
    · exact m.rng j (by omega)
  · by_cases h : k = i
    · rw [h, hx]
      intro he
      rw [(m.bit a).2 ⟨j, by omega, he⟩] at hb; cases hb
    · exact m.apart j k hjk (by omega)
  · rw [Nat.testBit_or, Bool.or_eq_true, m.bit, Nat.testBit_two_pow, decide_eq_true_eq]
    constructor
    · rintro (⟨j, hj, e⟩ | rfl)
      · exact ⟨j, by omega, e⟩
      · exact ⟨i, by omega, hx⟩
    · rintro ⟨j, hj, e⟩
      by_cases h : j = i
      · rw [h, hx] at e; exact .inr (by omega)
      · exact .inl ⟨j, by omega, e⟩
theorem Met.all {xs : List Int} (m : Met xs xs.length 31) : xs.length = 5 ∧ (∀ x ∈ xs.map Int.toNat, x < 5) ∧ (xs.map Int.toNat).Nodup ∧ ∀ i, i < 5 → xs.getD i 0 = (((xs.map Int.toNat).getD i 0 : Nat) : Int) := by
  have gd : ∀ i (h : i < xs.length), xs.getD i 0 = xs[i] := fun i h => by rw [List.getD, List.getElem?_eq_getElem h]; rfl
  have h5 : ∀ x ∈ xs.map Int.toNat, x < 5 := fun x hx => by
    obtain ⟨y, hy, rfl⟩ := List.mem_map.1 hx
    obtain ⟨j, hj, rfl⟩ := List.mem_iff_getElem.1 hy
    have := m.rng j hj
    rw [gd j hj] at this; omega
  have hn : (xs.map Int.toNat).Nodup := by
    refine List.pairwise_map.2 (List.pairwise_iff_getElem.2 fun i j hi hj hij he => ?_)
    have a := m.rng i hi
    have b := m.rng j hj
    have := m.apart i j hij hj
    rw [gd i hi] at a this
    rw [gd j hj] at b this
    omega
  have h1 := Rn.cnt_sub (L := List.range 5) List.nodup_range _ hn fun x hx => List.mem_range.2 (h5 x hx)
  have h2 := Rn.cnt_sub hn (List.range 5) List.nodup_range fun b hb => by
    rw [List.mem_range] at hb
    obtain ⟨j, hj, e⟩ := (m.bit b).1 (by
      have : b = 0 ∨ b = 1 ∨ b = 2 ∨ b = 3 ∨ b = 4 := by omega
      rcases this with rfl | rfl | rfl | rfl | rfl <;> decide)
    refine List.mem_map.2 ⟨xs[j], List.getElem_mem hj, ?_⟩
    rw [← gd j hj, e, Int.toNat_natCast]
  rw [List.length_map, List.length_range] at h1 h2
  refine ⟨by omega, h5, hn, fun i hi => ?_⟩
  have hi' : i < xs.length := by omega
  have := m.rng i hi'
  rw [gd i hi'] at this ⊢
  rw [List.getD, List.getElem?_map, List.getElem?_eq_getElem hi']
  simp only [Option.map_some, Option.getD_some]
  omega
theorem od_lt {o : List Nat} (h : ∀ x ∈ o, x < 5) (i : Nat) : o.getD i 0 < 5 := by
  rw [List.getD]
  by_cases hi : i < o.length
  · rw [List.getElem?_eq_getElem hi]; exact h _ (List.getElem_mem _)
  · rw [List.getElem?_eq_none (by omega)]; decide
theorem GT_lt {o : List Nat} (h : ∀ x ∈ o, x < 5) : ∀ i t, (GT o i).getD t 0 < 2 ^ 5
  | 0, t => by
    rw [show GT o 0 = List.replicate 5 0 from rfl, List.getD, List.getElem?_replicate]
    split <;> decide
  | i + 1, t => by
    have hl := GT_len o i
    have p : ∀ t, 2 ^ o.getD t 0 < 2 ^ 5 := fun t => Nat.pow_lt_pow_right (by decide) (od_lt h t)
    have q : ∀ t, ((GT o i).set (o.getD i 0) ((GT o i).getD (o.getD i 0) 0 ||| 2 ^ o.getD ((i + 1) % 5) 0)).getD t 0 < 2 ^ 5 := fun t => by
      rw [Wx (by rw [hl]; exact od_lt h i)]
      split
      · exact Nat.or_lt_two_pow (GT_lt h i _) (p _)
      · exact GT_lt h i t
    rw [GT_succ, stepG, Wx (by rw [List.length_set, hl]; exact od_lt h _)]
    split
    · exact Nat.or_lt_two_pow (q _) (p _)
    · exact q t
theorem codek_ok {h' : Zh} {xs : List Int} {r : Value} {k : Nat} (hg : grs xs = true) (h1 : 1 ≤ k) (h3 : k ≤ 3) (hw : wn xs k ≤ 64) (hr : codeR h' xs (k : Int) r) : ∃ w, r = .tuple #[w, .int .i64 0] ∧ OwnSl 3 h' w ((codeL (Xy xs k)).map Int.ofNat) := by
  rw [codeR, if_pos ⟨hg, by omega, by omega⟩, Int.toNat_natCast, if_pos hw] at hr
  exact hr

theorem s16_callW [Tabs Tryd.prog] {args : List Value} {h : Zh} {Q : Value → Zh → Prop} (hsz : args.length ≤ 152) (hk : AWS Tryd.prog 152 s16 (Zr Tryd.prog [.tmp 2] Q) (Zo 0 args) h) : ACall Tryd.prog 16 args h Q :=
  Xb Tryd.func16 rfl (enters_of Tryd.func16 (by kernel_rfl) rfl) rfl rfl (by decide) s16_strip s16_ok hsz hk
theorem law_five [BitTab prog 0] {h : Zh} {v : Value} {xs : List Int} (hv : IntSl h v xs) (hl : xs.length < 9223372036854775808) (hx : ∀ x ∈ xs, -9223372036854775808 ≤ x ∧ x < 9223372036854775808) :
    ACall prog 16 [v] h fun r _ => r = .bool true := by
  have e00 : ((0 : Int) == 0) = true := rfl
  have e22 : ((2 : Int) == 2) = true := rfl
  have e33 : ((3 : Int) == 3) = true := rfl
  have e55 : ((5 : Int) == 5) = true := rfl
  have n31 : ((31 : Int) != 31) = false := rfl
  have hnn : ∀ i : Nat, (0 : Int) ≤ (i : Int) := Int.natCast_nonneg
  refine s16_callW (by simp) ?_
  simp only [s16]
  refine Zg fun N1 hN1 => ?_
  simp (maxSteps := 2000000) only [↓Za, ↓Zb, ↓Zc, vup, cond_false, aop, Zf, Zo, ev, sput, Ze, Nat.reduceBEq]
  refine hN1 [(0, v), (2, .bool false)] _ _ ?_ (by simp (maxSteps := 2000000) only [vup, cond_true, cond_false, Nat.reduceBEq])
  clear hN1
  try clear N1
  refine Zg fun N2 hN2 => ?_
  simp (maxSteps := 2000000) only [↓Za, ↓Zb, ↓Zc, vup, cond_false, aop, Zf, ev, sput, Ze, Nat.reduceBEq]
  refine hN2 [(0, v), (2, .bool false), (3, .int .i64 0)] _ _ ?_ (by simp (maxSteps := 2000000) only [vup, cond_true, cond_false, Nat.reduceBEq])
  clear hN2
  try clear N2
  refine Zp fun Z hZ => ?_
  refine Zg fun N3 hN3 => ?_
  simp (maxSteps := 2000000) only [↓Za, ↓Zb, ↓Zc, vup, List.map_cons, List.map_nil, cond_true, cond_false, aop, Zf, ev, sput, Ze, Zj, Nat.reduceBEq, tyf, hv.len]
  refine hN3 [(0, v), (2, .bool false), (3, .int .i64 0), (20, v), (21, Zd xs.length), (22, .int .i64 0)] _ _ ?_ (by simp (maxSteps := 2000000) only [vup, cond_true, cond_false, Nat.reduceBEq])
  clear hN3
  try clear N3
  refine Zt ?_
  refine Zn fun Q hQ => ?_
  refine Yw (γ := Nat × Nat) (fun g => g.1 ≤ xs.length ∧ Met xs g.1 g.2) (fun g => ([(0, v), (2, .bool false), (3, Zd (g.2 : Nat)), (20, v), (21, Zd xs.length), (22, Zd (g.1 : Nat))], h)) (fun g => xs.length - g.1) (0, 0) ⟨Nat.zero_le _, Met.nil xs⟩ (by simp (maxSteps := 2000000) only [vup, cond_true, cond_false, Nat.reduceBEq, Int.natCast_zero]) rfl ?_
  rintro ⟨i, M⟩ ⟨hi, hm⟩
  simp only at hi hm
  refine Zn fun Q2 hQ2 => ?_
  simp only [l16_0]
  by_cases hin : (i : Int) < xs.length
  · have hi' : i < xs.length := by omega
    obtain ⟨x, hxe⟩ : ∃ x, x = xs.getD i 0 := ⟨_, rfl⟩
    refine Zg fun N4 hN4 => ?_
    simp (maxSteps := 2000000) only [↓Za, ↓Zb, ↓Zc, vup, cond_true, cond_false, aop, Zf, ev, sput, Ze, Zy, Ya, Nat.reduceBEq, hin]
    refine hN4 [(0, v), (2, .bool false), (3, Zd (M : Nat)), (20, v), (21, Zd xs.length), (22, Zd (i : Nat)), (23, .bool true)] _ _ ?_ (by simp (maxSteps := 2000000) only [vup, cond_true, cond_false, Nat.reduceBEq])
    clear hN4
    try clear N4
    refine Zg fun N5 hN5 => ?_
    simp (maxSteps := 2000000) only [↓Zk, ↓vdn, vup, cond_true, cond_false, Zf, ev, Nat.reduceBEq]
    refine hN5 [(0, v), (2, .bool false), (3, Zd (M : Nat)), (20, v), (21, Zd xs.length), (22, Zd (i : Nat))] _ _ ?_ (by simp (maxSteps := 2000000) only [vup, cond_true, cond_false, Nat.reduceBEq])
    clear hN5
    try clear N5
    refine Zp fun B hB => ?_
    refine Zt ?_
    refine Zg fun N6 hN6 => ?_
    simp (maxSteps := 2000000) only [↓Za, ↓Zb, ↓Zc, vup, cond_true, cond_false, aop, Zf, ev, sput, Ze, Nat.reduceBEq, hv.idx Xg Yv hi', hv.load Yq hi', ← hxe]
    refine hN6 [(0, v), (2, .bool false), (3, Zd (M : Nat)), (5, Zd x), (20, v), (21, Zd xs.length), (22, Zd (i : Nat))] _ _ ?_ (by simp (maxSteps := 2000000) only [vup, cond_true, cond_false, Nat.reduceBEq])
    clear hN6
    try clear N6
    refine Zp fun A hA => ?_
    by_cases hx0 : x < 0
    · refine Zg fun N7 hN7 => ?_
      simp (maxSteps := 2000000) only [↓Za, ↓Zb, ↓Zc, ↓vdn, vup, cond_true, cond_false, aop, Zf, ev, sput, Ze, Zy, Ya, Nat.reduceBEq, hx0]
      refine hN7 [(0, v), (2, .bool false), (3, Zd (M : Nat)), (5, Zd x), (20, v), (21, Zd xs.length), (22, Zd (i : Nat)), (38, .bool true)] _ _ ?_ (by simp (maxSteps := 2000000) only [vup, cond_true, cond_false, Nat.reduceBEq])
      clear hN7
      try clear N7
      refine Xc rfl ?_
      refine Zm ?_
      simp (maxSteps := 2000000) only [↓Za, ↓Zi, ↓Zw, ↓Zb, ↓Zc, vup, List.map_nil, cond_true, cond_false, aop, Zf, Zl, ev, sput, Ze, Nat.reduceBEq, Ym, List.append_nil]
      refine awk fun g _ => ?_
      refine hQ2 _ _ _ (hQ _ _ _ ?_)
      simp (maxSteps := 2000000) only [vup, cond_true, cond_false, Zf, Zl, Nat.reduceBEq, Zr, Xj, tup]
    by_cases hx4 : 4 < x
    · refine Zg fun N8 hN8 => ?_
      simp (maxSteps := 2000000) only [↓Za, ↓Zb, ↓Zc, ↓vdn, vup, cond_true, cond_false, aop, Zf, ev, sput, Ze, Zy, Ya, Nat.reduceBEq, hx0, hx4]
      refine hN8 [(0, v), (2, .bool false), (3, Zd (M : Nat)), (5, Zd x), (20, v), (21, Zd xs.length), (22, Zd (i : Nat)), (38, .bool true)] _ _ ?_ (by simp (maxSteps := 2000000) only [vup, cond_true, cond_false, Nat.reduceBEq])
      clear hN8
      try clear N8
      refine Xc rfl ?_
      refine Zm ?_
      simp (maxSteps := 2000000) only [↓Za, ↓Zi, ↓Zw, ↓Zb, ↓Zc, vup, List.map_nil, cond_true, cond_false, aop, Zf, Zl, ev, sput, Ze, Nat.reduceBEq, Ym, List.append_nil]
      refine awk fun g _ => ?_
      refine hQ2 _ _ _ (hQ _ _ _ ?_)
      simp (maxSteps := 2000000) only [vup, cond_true, cond_false, Zf, Zl, Nat.reduceBEq, Zr, Xj, tup]
    obtain ⟨a, rfl⟩ : ∃ a : Nat, x = (a : Int) := ⟨x.toNat, by omega⟩
    have ha : a < 5 := by omega
    have hM := hm.lt
    have htst := @testV M a (by omega)
    cases hb : M.testBit a with
    | true =>
      rw [hb, if_pos rfl] at htst
      have e11 : ((1 : Int) == 1) = true := rfl
      refine Zg fun N9 hN9 => ?_
      simp (maxSteps := 2000000) only [↓Za, ↓Zb, ↓Zc, ↓vdn, vup, cond_true, cond_false, aop, Zf, ev, sput, Ze, Zy, Ya, Nat.reduceBEq, hx0, hx4, hnn, htst, e11]
      refine hN9 [(0, v), (2, .bool false), (3, Zd (M : Nat)), (5, Zd (a : Nat)), (20, v), (21, Zd xs.length), (22, Zd (i : Nat)), (38, .bool true)] _ _ ?_ (by simp (maxSteps := 2000000) only [vup, cond_true, cond_false, Nat.reduceBEq])
      clear hN9
      try clear N9
      refine Xc rfl ?_
      refine Zm ?_
      simp (maxSteps := 2000000) only [↓Za, ↓Zi, ↓Zw, ↓Zb, ↓Zc, vup, List.map_nil, cond_true, cond_false, aop, Zf, Zl, ev, sput, Ze, Nat.reduceBEq, Ym, List.append_nil]
      refine awk fun g _ => ?_
      refine hQ2 _ _ _ (hQ _ _ _ ?_)
      simp (maxSteps := 2000000) only [vup, cond_true, cond_false, Zf, Zl, Nat.reduceBEq, Zr, Xj, tup]
    | false =>
      rw [hb, if_neg (by decide)] at htst
      have e01 : ((0 : Int) == 1) = false := rfl
      refine Zg fun N10 hN10 => ?_
      simp (maxSteps := 2000000) only [↓Za, ↓Zb, ↓Zc, ↓vdn, vup, cond_true, cond_false, aop, Zf, ev, sput, Ze, Zy, Ya, Nat.reduceBEq, hx0, hx4, hnn, htst, e01]
      refine hN10 [(0, v), (2, .bool false), (3, Zd (M : Nat)), (5, Zd (a : Nat)), (20, v), (21, Zd xs.length), (22, Zd (i : Nat)), (38, .bool false)] _ _ ?_ (by simp (maxSteps := 2000000) only [vup, cond_true, cond_false, Nat.reduceBEq])
      clear hN10
      try clear N10
      refine Yt rfl ?_
      refine Zm ?_
      simp (maxSteps := 2000000) only [↓Zk, Zf]
      refine hA [(0, v), (2, .bool false), (3, Zd (M : Nat)), (5, Zd (a : Nat)), (20, v), (21, Zd xs.length), (22, Zd (i : Nat))] _ _ ?_ (by simp (maxSteps := 2000000) only [vup, cond_true, cond_false, Nat.reduceBEq])
      clear hA
      try clear A
      have hp : 2 ^ a < 64 := Nat.lt_of_lt_of_le (Nat.pow_lt_pow_right (by decide) ha) (show 2 ^ 5 ≤ 64 by decide)
      have hor : Xz .or .i64 ((M : Nat) : Int) ((2 ^ a : Nat) : Int) = ((M ||| 2 ^ a : Nat) : Int) := bitsV_or (by omega) (by omega)
      refine Zm ?_
      simp (maxSteps := 2000000) only [↓Za, ↓Zb, ↓Zc, vup, cond_true, cond_false, aop, Zf, Zl, ev, sput, Ze, Zy, Ya, Nat.reduceBEq, hnn, shlI1 (show a ≤ 62 by omega), hor]
      refine hB [(0, v), (2, .bool false), (3, Zd (M ||| 2 ^ a : Nat)), (20, v), (21, Zd xs.length), (22, Zd (i : Nat))] _ _ ?_ (by simp (maxSteps := 2000000) only [vup, cond_true, cond_false, Nat.reduceBEq])
      clear hB
      try clear B
      refine Zm ?_
      simp (maxSteps := 2000000) only [↓Za, ↓Zb, ↓Zc, vup, cond_true, cond_false, aop, ev, sput, Ze, Zy, Ya, Nat.reduceBEq, Wz (show i < 9223372036854775807 by omega)]
      exact hQ2 _ _ _ ⟨(i + 1, M ||| 2 ^ a), ⟨hi', hm.next hxe.symm ha hb⟩, by simp only; omega, by simp (maxSteps := 2000000) only [vup, cond_true, cond_false, Nat.reduceBEq], rfl⟩
  obtain rfl : i = xs.length := by omega
  refine Zg fun N11 hN11 => ?_
  simp (maxSteps := 2000000) only [↓Za, ↓Zb, ↓Zc, vup, cond_true, cond_false, aop, Zf, ev, sput, Ze, Zy, Ya, Nat.reduceBEq, hin]
  refine hN11 [(0, v), (2, .bool false), (3, Zd (M : Nat)), (20, v), (21, Zd xs.length), (22, Zd xs.length), (23, .bool false)] _ _ ?_ (by simp (maxSteps := 2000000) only [vup, cond_true, cond_false, Nat.reduceBEq])
  clear hN11
  try clear N11
  refine Zg fun N12 hN12 => ?_
  simp (maxSteps := 2000000) only [↓Yg, ↓vdn, vup, cond_true, cond_false, Zf, ev, Nat.reduceBEq]
  refine hQ2 _ _ _ (hQ _ _ _ ?_)
  simp (maxSteps := 2000000) only [Zf, Zl, Zr, if_true]
  refine hZ [(0, v), (2, .bool false), (3, Zd (M : Nat))] _ _ ?_ (by simp (maxSteps := 2000000) only [vup, cond_true, cond_false, Nat.reduceBEq])
  clear hZ
  try clear Z
  clear hQ hQ2
  refine Zp fun A hA => ?_
  by_cases hM : M = 31
  case neg =>
    have hne : ((M : Int) != 31) = true := by rw [bne_iff_ne]; omega
    refine Zg fun N13 hN13 => ?_
    simp (maxSteps := 2000000) only [↓Za, ↓Zb, ↓Zc, vup, cond_true, cond_false, aop, Zf, ev, sput, Ze, Zy, Ya, Nat.reduceBEq, hne]
    refine hN13 [(0, v), (2, .bool false), (3, Zd (M : Nat)), (46, .bool true)] _ _ ?_ (by simp (maxSteps := 2000000) only [vup, cond_true, cond_false, Nat.reduceBEq])
    clear hN13
    try clear N13
    refine Xc rfl ?_
    refine Zm ?_
    simp (maxSteps := 2000000) only [↓Za, ↓Zi, ↓Zw, ↓Zb, ↓Zc, vup, List.map_nil, cond_true, cond_false, aop, Zf, ev, sput, Ze, Nat.reduceBEq, Zr, Xj, tup, Ym, List.append_nil]
    refine awk fun g _ => ?_
    trivial
  subst hM
  obtain ⟨hl5, ho5, hon, hog⟩ := hm.all
  obtain ⟨o, ho⟩ : ∃ o, o = xs.map Int.toNat := ⟨_, rfl⟩
  rw [← ho] at ho5 hon hog
  have hol : o.length = 5 := by rw [ho, List.length_map, hl5]
  have n31' : (((31 : Nat) : Int) != 31) = false := rfl
  refine Zg fun N14 hN14 => ?_
  simp (maxSteps := 2000000) only [↓Za, ↓Zb, ↓Zc, vup, cond_true, cond_false, aop, Zf, ev, sput, Ze, Zy, Ya, Nat.reduceBEq, n31']
  refine hN14 [(0, v), (2, .bool false), (3, Zd (31 : Nat)), (46, .bool false)] _ _ ?_ (by simp (maxSteps := 2000000) only [vup, cond_true, cond_false, Nat.reduceBEq])
  clear hN14
  try clear N14
  refine Yt rfl ?_
  refine Zm ?_
  simp (maxSteps := 2000000) only [↓Zk, Zf]
  refine hA [(0, v), (2, .bool false)] _ _ ?_ (by simp (maxSteps := 2000000) only [vup, cond_true, cond_false, Nat.reduceBEq])
  clear hA
  try clear A
  have t5 : (5 : Int).toNat = 5 := rfl
  have hz : List.replicate 5 (0 : Int) = iL (GT o 0) := rfl
  refine Zg fun N15 hN15 => ?_
  simp (maxSteps := 2000000) only [↓Za, ↓Zb, ↓Zc, vup, cond_true, cond_false, aop, Zf, ev, sput, Ze, Nat.reduceBEq, makeI Xg zero_3 info_3 (show (0 : Int) ≤ 5 by decide) (show (5 : Int) ≤ 35184372088832 by decide), t5, hz]
  refine hN15 [(0, v), (2, .bool false), (6, tv h.length 5)] _ _ ?_ (by simp (maxSteps := 2000000) only [vup, cond_true, cond_false, Nat.reduceBEq])
  clear hN15
  try clear N15
  have hvT : ∀ i, IntSl (tabH h (GT o i)) v xs := fun i => hv.grow _
  have hlv : lenK v = fun K => K (Zd (5 : Nat)) := by funext K; rw [hv.len, hl5]
  refine Zp fun Z hZ => ?_
  refine Zg fun N16 hN16 => ?_
  simp (maxSteps := 2000000) only [↓Za, ↓Zb, ↓Zc, vup, List.map_cons, List.map_nil, cond_true, cond_false, aop, Zf, ev, sput, Ze, Zj, Nat.reduceBEq, tyf, hlv]
  refine hN16 [(0, v), (2, .bool false), (6, tv h.length 5), (49, v), (50, Zd (5 : Nat)), (51, .int .i64 0)] _ _ ?_ (by simp (maxSteps := 2000000) only [vup, cond_true, cond_false, Nat.reduceBEq])
  clear hN16
  try clear N16
  refine Zt ?_
  refine Zn fun Q hQ => ?_
  refine Yw (γ := Nat) (fun i => i ≤ 5) (fun i => ([(0, v), (2, .bool false), (6, tv h.length 5), (49, v), (50, Zd (5 : Nat)), (51, Zd (i : Nat))], tabH h (GT o i))) (fun i => 5 - i) 0 (Nat.zero_le _) (by simp (maxSteps := 2000000) only [vup, cond_true, cond_false, Nat.reduceBEq, Int.natCast_zero]) rfl ?_
  rintro i hi
  refine Zn fun Q2 hQ2 => ?_
  simp only [l16_1]
  by_cases hin : (i : Int) < ((5 : Nat) : Int)
  · have hi' : i < 5 := by omega
    have hxi : i < xs.length := by omega
    have hj' : (i + 1) % 5 < 5 := Nat.mod_lt _ (by decide)
    have hxj : (i + 1) % 5 < xs.length := by omega
    obtain ⟨a, ha⟩ : ∃ a, o.getD i 0 = a := ⟨_, rfl⟩
    obtain ⟨b, hb⟩ : ∃ b, o.getD ((i + 1) % 5) 0 = b := ⟨_, rfl⟩
    have ha5 : a < 5 := ha ▸ od_lt ho5 i
    have hb5 : b < 5 := hb ▸ od_lt ho5 _
    have xi := hog i hi'
    have xj := hog _ hj'
    rw [ha] at xi
    rw [hb] at xj
    have hrem : Int.tmod ((i + 1 : Nat) : Int) 5 = (((i + 1) % 5 : Nat) : Int) := tmodN (i + 1) 5
    have h50 : ¬ (5 : Int) = 0 := by decide
    obtain ⟨L, hL⟩ : ∃ L, GT o i = L := ⟨_, rfl⟩
    have hLl : L.length = 5 := hL ▸ GT_len o i
    have hLt := GT_lt ho5 i
    have hvi := hvT i
    rw [hL] at hLt hvi
    obtain ⟨L1, hL1⟩ : ∃ L1, L.set a (L.getD a 0 ||| 2 ^ b) = L1 := ⟨_, rfl⟩
    have hL1l : L1.length = 5 := by rw [← hL1, List.length_set, hLl]
    have hnx : GT o (i + 1) = L1.set b (L1.getD b 0 ||| 2 ^ a) := by rw [GT_succ, stepG, hL, ha, hb, hL1]
    have pa : 2 ^ a < 2 ^ 5 := Nat.pow_lt_pow_right (by decide) ha5
    have pb : 2 ^ b < 2 ^ 5 := Nat.pow_lt_pow_right (by decide) hb5
    have hL1t : L1.getD b 0 < 2 ^ 5 := by
      rw [← hL1, Wx (by rw [hLl]; exact ha5)]
      split
      · exact Nat.or_lt_two_pow (hLt a) pb
      · exact hLt b
    have q5 : 2 ^ 5 = 32 := rfl
    have hor1 : Xz .or .i64 ((L.getD a 0 : Nat) : Int) ((2 ^ b : Nat) : Int) = ((L.getD a 0 ||| 2 ^ b : Nat) : Int) := bitsV_or (by have := hLt a; omega) (by omega)
    have hor2 : Xz .or .i64 ((L1.getD b 0 : Nat) : Int) ((2 ^ a : Nat) : Int) = ((L1.getD b 0 ||| 2 ^ a : Nat) : Int) := bitsV_or (by omega) (by omega)
    have g0 : (tabH h L)[h.length]? = some (.ints (iL L) 3 false) := Yz _ _
    have g1 : (tabH h L1)[h.length]? = some (.ints (iL L1) 3 false) := Yz _ _
    refine Zg fun N17 hN17 => ?_
    simp (maxSteps := 2000000) only [↓Za, ↓Zb, ↓Zc, vup, cond_true, cond_false, aop, Zf, ev, sput, Ze, Zy, Ya, Nat.reduceBEq, hin]
    refine hN17 [(0, v), (2, .bool false), (6, tv h.length 5), (49, v), (50, Zd (5 : Nat)), (51, Zd (i : Nat)), (52, .bool true)] _ _ ?_ (by simp (maxSteps := 2000000) only [vup, cond_true, cond_false, Nat.reduceBEq])
    clear hN17
    try clear N17
    refine Zg fun N18 hN18 => ?_
    simp (maxSteps := 2000000) only [↓Zk, ↓vdn, vup, cond_true, cond_false, Zf, ev, Nat.reduceBEq]
    refine hN18 [(0, v), (2, .bool false), (6, tv h.length 5), (49, v), (50, Zd (5 : Nat)), (51, Zd (i : Nat))] _ _ ?_ (by simp (maxSteps := 2000000) only [vup, cond_true, cond_false, Nat.reduceBEq])
    clear hN18
    try clear N18
    refine Zp fun B hB => ?_
    refine Zt ?_
    rw [hL]
    refine Zg fun N19 hN19 => ?_
    simp (maxSteps := 2000000) only [↓Za, ↓Zb, ↓Zc, vup, cond_true, cond_false, aop, Zf, ev, sput, Ze, Nat.reduceBEq, hvi.idx Xg Yv hxi, hvi.load Yq hxi, xi]
    refine hN19 [(0, v), (2, .bool false), (6, tv h.length 5), (7, Zd (i : Nat)), (8, Zd (a : Nat)), (49, v), (50, Zd (5 : Nat)), (51, Zd (i : Nat))] _ _ ?_ (by simp (maxSteps := 2000000) only [vup, cond_true, cond_false, Nat.reduceBEq])
    clear hN19
    try clear N19
    refine Zg fun N20 hN20 => ?_
    simp (maxSteps := 2000000) only [↓Za, ↓Zb, ↓Zc, vup, cond_true, cond_false, aop, Zf, ev, sput, Ze, Zy, Ya, Nat.reduceBEq, Wz (show i < 9223372036854775807 by omega), ne_eq, h50, not_false_eq_true, hrem, hvi.idx Xg Yv hxj, hvi.load Yq hxj, xj]
    refine hN20 [(0, v), (2, .bool false), (6, tv h.length 5), (7, Zd (i : Nat)), (8, Zd (a : Nat)), (9, Zd (b : Nat)), (49, v), (50, Zd (5 : Nat)), (51, Zd (i : Nat))] _ _ ?_ (by simp (maxSteps := 2000000) only [vup, cond_true, cond_false, Nat.reduceBEq])
    clear hN20
    try clear N20
    refine Zg fun N21 hN21 => ?_
    refine Xh [] (by kernel_rfl) (by kernel_rfl) (by kernel_rfl) (by kernel_rfl) ?_
    simp (maxSteps := 2000000) only [↓Yj, ↓vdn, vup, cond_true, cond_false, aop, Zf, ev, sput, Ze, Zy, Ya, Nat.reduceBEq, Nat.reduceAdd, tyf, tab_idx g0 hLl ha5, tab_load g0 hLl ha5, hnn, shlI1 (show b ≤ 62 by omega), hor1, tab_store g0 hLl ha5, set_last, hL1]
    refine hN21 [(0, v), (2, .bool false), (6, tv h.length 5), (7, Zd (i : Nat)), (8, Zd (a : Nat)), (9, Zd (b : Nat)), (49, v), (50, Zd (5 : Nat)), (51, Zd (i : Nat))] _ _ ?_ (by simp (maxSteps := 2000000) only [vup, cond_true, cond_false, Nat.reduceBEq])
    clear hN21
    try clear N21
    refine Zm ?_
    refine Xh [] (by kernel_rfl) (by kernel_rfl) (by kernel_rfl) (by kernel_rfl) ?_
    simp (maxSteps := 2000000) only [↓Yj, ↓vdn, vup, cond_true, cond_false, aop, Zf, Zl, ev, sput, Ze, Zy, Ya, Nat.reduceBEq, Nat.reduceAdd, tyf, tab_idx g1 hL1l hb5, tab_load g1 hL1l hb5, hnn, shlI1 (show a ≤ 62 by omega), hor2, tab_store g1 hL1l hb5, set_last, ← hnx]
    refine hB [(0, v), (2, .bool false), (6, tv h.length 5), (49, v), (50, Zd (5 : Nat)), (51, Zd (i : Nat))] _ _ ?_ (by simp (maxSteps := 2000000) only [vup, cond_true, cond_false, Nat.reduceBEq])
    clear hB
    try clear B
    refine Zm ?_
    simp (maxSteps := 2000000) only [↓Za, ↓Zb, ↓Zc, vup, cond_true, cond_false, aop, ev, sput, Ze, Zy, Ya, Nat.reduceBEq, Wz (show i < 9223372036854775807 by omega)]
    exact hQ2 _ _ _ ⟨i + 1, hi', by omega, by simp (maxSteps := 2000000) only [vup, cond_true, cond_false, Nat.reduceBEq], rfl⟩
  obtain rfl : i = 5 := by omega
  refine Zg fun N22 hN22 => ?_
  simp (maxSteps := 2000000) only [↓Za, ↓Zb, ↓Zc, vup, cond_true, cond_false, aop, Zf, ev, sput, Ze, Zy, Ya, Nat.reduceBEq, hin]
  refine hN22 [(0, v), (2, .bool false), (6, tv h.length 5), (49, v), (50, Zd (5 : Nat)), (51, Zd (5 : Nat)), (52, .bool false)] _ _ ?_ (by simp (maxSteps := 2000000) only [vup, cond_true, cond_false, Nat.reduceBEq])
  clear hN22
  try clear N22
  refine Zg fun N23 hN23 => ?_
  simp (maxSteps := 2000000) only [↓Yg, ↓vdn, vup, cond_true, cond_false, Zf, ev, Nat.reduceBEq]
  refine hQ2 _ _ _ (hQ _ _ _ ?_)
  simp (maxSteps := 2000000) only [Zf, Zl, Zr, if_true]
  refine hZ [(0, v), (2, .bool false), (6, tv h.length 5)] _ _ ?_ (by simp (maxSteps := 2000000) only [vup, cond_true, cond_false, Nat.reduceBEq])
  clear hZ
  try clear Z
  clear hQ hQ2
  have c5 := C5_of hol ho5 hon
  obtain ⟨G, hG⟩ : ∃ G, G = iL (GT o 5) := ⟨_, rfl⟩
  have hvG : IntSl (tabH h (GT o 5)) (tv h.length 5) G := by
    have := intSl_blk (Yz h (.ints (iL (GT o 5)) 3 false))
    rw [Ww, GT_len] at this
    rw [hG]; exact this
  rw [← hG] at c5
  have hGl : G.length = 5 := c5.len
  have gG := c5.gs
  have hgG := grs_iff.2 gG
  have hrG := gs_rng gG
  have hlG : G.length < 9223372036854775808 := by omega
  generalize tabH h (GT o 5) = h0 at hvG ⊢
  generalize tv h.length 5 = u at hvG ⊢
  refine Zg fun N24 hN24 => ?_
  simp (maxSteps := 2000000) only [↓Za, ↓Zb, ↓Zc, vup, List.map_cons, List.map_nil, cond_true, cond_false, aop, Zf, ev, sput, Ze, Nat.reduceBEq, Ym, List.nil_append, List.append_nil]
  refine (list_call hvG hlG).mono ?_
  rintro l1 _ ⟨hl1, g1, rfl⟩
  rw [grs_same hgG] at hl1
  refine (code_call (k := 1) hl1 hlG hrG).mono ?_
  rintro r1 h1 ⟨hE1, hr1⟩
  obtain ⟨w1, rfl, hc1⟩ := codek_ok (k := 1) hgG (by decide) (by decide) (by rw [wn_one]; omega) hr1
  simp (maxSteps := 2000000) only [extr_20, extr_21]
  refine hN24 [(0, v), (2, .bool false), (6, u), (10, w1), (11, .int .i64 0)] _ _ ?_ (by simp (maxSteps := 2000000) only [vup, cond_true, cond_false, Nat.reduceBEq])
  clear hN24
  try clear N24
  have hE01 := (Ext.app (fun _ => False) h0 g1).trans hE1
  have hv1 := Xm hvG hE01
  have lc1 := hc1.int.len
  rw [List.length_map, c5.most1] at lc1
  refine Zg fun N25 hN25 => ?_
  simp (maxSteps := 2000000) only [↓Za, ↓Zb, ↓Zc, vup, List.map_cons, List.map_nil, cond_true, cond_false, aop, Zf, ev, sput, Ze, Nat.reduceBEq, Ym, List.nil_append, List.append_nil]
  refine (list_call hv1 hlG).mono ?_
  rintro l2 _ ⟨hl2, g2, rfl⟩
  rw [grs_same hgG] at hl2
  refine (code_call (k := 2) hl2 hlG hrG).mono ?_
  rintro r2 h2 ⟨hE2, hr2⟩
  obtain ⟨w2, rfl, hc2⟩ := codek_ok (k := 2) hgG (by decide) (by decide) (by rw [wn, hGl]; decide) hr2
  simp (maxSteps := 2000000) only [extr_20, extr_21]
  refine hN25 [(0, v), (2, .bool false), (6, u), (10, w1), (11, .int .i64 0), (12, w2), (13, .int .i64 0)] _ _ ?_ (by simp (maxSteps := 2000000) only [vup, cond_true, cond_false, Nat.reduceBEq])
  clear hN25
  try clear N25
  have hE12 := (Ext.app (fun _ => False) h1 g2).trans hE2
  have hv2 := Xm hv1 hE12
  have lc2 := hc2.int.len
  rw [List.length_map, c5.most2] at lc2
  refine Zg fun N26 hN26 => ?_
  simp (maxSteps := 2000000) only [↓Za, ↓Zb, ↓Zc, vup, List.map_cons, List.map_nil, cond_true, cond_false, aop, Zf, ev, sput, Ze, Nat.reduceBEq, Ym, List.nil_append, List.append_nil]
  refine (list_call hv2 hlG).mono ?_
  rintro l3 _ ⟨hl3, g3, rfl⟩
  rw [grs_same hgG] at hl3
  refine (weigh_call hl3 hlG hrG).mono ?_
  rintro r3 h3 ⟨hE3, hr3⟩
  rw [weighR, if_pos hgG] at hr3
  obtain ⟨q, rfl, hq⟩ := hr3
  have hq2 : q = 5 / 2 := hq.inj c5.weigh
  have qn : q.num = 5 := by rw [hq2]; decide +kernel
  have qd : ((q.den : Nat) : Int) = 2 := by rw [hq2]; decide +kernel
  simp (maxSteps := 2000000) only [extr_20, extr_21, tyf, qV, frV, Wl, Xo, newF, qn, qd]
  have hE23 := ((Ext.app (fun _ => False) h2 g3).trans hE3).trans (Ext.app _ _ [Blk.cells [Zd 5, Zd 2] 44 false])
  have c14 := Yz h3 (Blk.cells [Zd 5, Zd 2] 44 false)
  generalize h3 ++ [Blk.cells [Zd 5, Zd 2] 44 false] = H3 at hE23 c14 ⊢
  generalize h3.length = b14 at c14 ⊢
  refine hN26 [(0, v), (2, .bool false), (6, u), (10, w1), (11, .int .i64 0), (12, w2), (13, .int .i64 0), (14, .pointer (some ⟨b14, 0, none⟩)), (15, .int .i64 0)] _ _ ?_ (by simp (maxSteps := 2000000) only [vup, cond_true, cond_false, Nat.reduceBEq])
  clear hN26
  try clear N26
  have hv3 := Xm hv2 hE23
  refine Zg fun N27 hN27 => ?_
  simp (maxSteps := 2000000) only [↓Za, ↓Zb, ↓Zc, vup, List.map_cons, List.map_nil, cond_true, cond_false, aop, Zf, ev, sput, Ze, Nat.reduceBEq, Ym, List.nil_append, List.append_nil]
  refine (list_call hv3 hlG).mono ?_
  rintro l4 _ ⟨hl4, g4, rfl⟩
  rw [grs_same hgG] at hl4
  refine (cover_call hl4 hlG hrG).mono ?_
  rintro r4 h4 ⟨hE4, hr4⟩
  rw [if_pos hgG, c5.cov] at hr4
  subst hr4
  simp (maxSteps := 2000000) only [extr_20, extr_21]
  refine hN27 [(0, v), (2, .bool false), (6, u), (10, w1), (11, .int .i64 0), (12, w2), (13, .int .i64 0), (14, .pointer (some ⟨b14, 0, none⟩)), (15, .int .i64 0), (16, Zd (3 : Nat)), (17, .int .i64 0)] _ _ ?_ (by simp (maxSteps := 2000000) only [vup, cond_true, cond_false, Nat.reduceBEq])
  clear hN27
  try clear N27
  have hE34 := (Ext.app (fun _ => False) H3 g4).trans hE4
  have hv4 := Xm hv3 hE34
  refine Zg fun N28 hN28 => ?_
  simp (maxSteps := 2000000) only [↓Za, ↓Zb, ↓Zc, vup, List.map_cons, List.map_nil, cond_true, cond_false, aop, Zf, ev, sput, Ze, Nat.reduceBEq, Ym, List.nil_append, List.append_nil]
  refine (fit_call hv4 hlG hrG).mono ?_
  rintro r5 h5 ⟨hE5, hr5⟩
  rw [if_pos ⟨hgG, by omega⟩] at hr5
  obtain ⟨m, rfl, hm⟩ := hr5
  rw [c5.fit hm]
  simp (maxSteps := 2000000) only [extr_20, extr_21]
  refine hN28 [(0, v), (2, .bool false), (6, u), (10, w1), (11, .int .i64 0), (12, w2), (13, .int .i64 0), (14, .pointer (some ⟨b14, 0, none⟩)), (15, .int .i64 0), (16, Zd (3 : Nat)), (17, .int .i64 0), (18, Zd (3 : Nat)), (19, .int .i64 0)] _ _ ?_ (by simp (maxSteps := 2000000) only [vup, cond_true, cond_false, Nat.reduceBEq])
  clear hN28
  try clear N28
  have d14 := ((hE34.trans hE5).2 _ (Yo c14) id).trans c14
  have e2' : (((2 : Nat) : Int) == 2) = true := rfl
  have e5' : (((5 : Nat) : Int) == 5) = true := rfl
  have e3' : (((3 : Nat) : Int) == 3) = true := rfl
  have ee : (([5, 2] : List Int) == [5, 2]) = true := rfl
  refine Zg fun N29 hN29 => ?_
  simp only [q16_24]
  refine aw_regcut 19 fun N1 hN1 => ?_
  simp (maxSteps := 2000000) only [↓Za, ↓Zb, ↓Zc, ↓vdn, vup, cond_true, cond_false, aop, ev, sput, Ze, Zy, Ya, Nat.reduceBEq, List.take_succ_cons, List.take_zero, e00]
  refine hN1 _ _ ?_
  clear hN1 N1
  simp only [List.drop_succ_cons, List.drop_zero]
  refine aw_regcut 9 fun N1 hN1 => ?_
  simp (maxSteps := 2000000) only [↓Za, ↓Zb, ↓Zc, ↓vdn, vup, List.map_cons, List.map_nil, cond_true, cond_false, aop, ev, sput, Ze, Zy, Ya, Zj, Nat.reduceBEq, tyf, List.take_succ_cons, List.take_zero, lc1, lc2, e2', e5']
  refine hN1 _ _ ?_
  clear hN1 N1
  simp only [List.drop_succ_cons, List.drop_zero]
  refine aw_regcut 5 fun N1 hN1 => ?_
  simp (maxSteps := 2000000) only [↓Za, ↓Zb, ↓Zc, ↓vdn, vup, List.map_cons, List.map_nil, cond_true, cond_false, aop, ev, sput, Ze, Zy, Ya, Nat.reduceBEq, Nat.reduceAdd, List.take_succ_cons, List.take_zero, loadF d14, bldF, Xd, Option.map_some, List.length_cons, List.length_nil, Nat.zero_add, eqF, ee]
  refine hN1 _ _ ?_
  clear hN1 N1
  simp only [List.drop_succ_cons, List.drop_zero]
  refine aw_regcut 4 fun N1 hN1 => ?_
  simp (maxSteps := 2000000) only [↓Za, ↓Zb, ↓Zc, ↓vdn, vup, cond_true, cond_false, aop, ev, sput, Ze, Zy, Ya, Nat.reduceBEq, List.take_succ_cons, List.take_zero, e3']
  refine hN1 _ _ ?_
  clear hN1 N1
  simp only [List.drop_succ_cons, List.drop_zero]
  refine aw_regcut 5 fun N1 hN1 => ?_
  simp (maxSteps := 2000000) only [↓Za, ↓Zb, ↓Zc, ↓vdn, vup, cond_true, cond_false, aop, ev, sput, Ze, Zy, Ya, Nat.reduceBEq, List.take_succ_cons, List.take_zero, e3']
  refine hN1 _ _ ?_
  clear hN1 N1
  simp only [List.drop_succ_cons, List.drop_zero]
  simp (maxSteps := 2000000) only [↓Za, ↓Zb, ↓Zc, ↓vdn, vup, List.map_nil, cond_true, cond_false, aop, Zf, ev, sput, Ze, Nat.reduceBEq, Ym, List.append_nil]
  refine awk fun g _ => ?_
  refine hN29 [(0, v), (2, .bool true), (6, u), (10, w1), (11, .int .i64 0), (12, w2), (13, .int .i64 0), (14, .pointer (some ⟨b14, 0, none⟩)), (15, .int .i64 0), (16, Zd (3 : Nat)), (17, .int .i64 0), (18, Zd (3 : Nat)), (19, .int .i64 0)] _ _ ?_ (by simp (maxSteps := 2000000) only [vup, cond_true, cond_false, Nat.reduceBEq])
  clear hN29
  try clear N29
  refine Zm ?_
  simp (maxSteps := 2000000) only [↓Zw, vup, cond_true, cond_false, Nat.reduceBEq, Zr, Xj, tup]
end Go.Proofs.Tryd.Am
